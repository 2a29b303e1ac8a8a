import Derived.Test.YtnbcoenjobdplaaRows
import Derived.Test.YtnbcoenjobdplaaR0
import Derived.Test.YtnbcoenjobdplaaR6
import Derived.Test.YtnbcoenjobdplaaR2
set_option linter.all false
namespace Go.Proofs.Ytnbcoenjobdplaa
open Go.KL
open Go.ChangeShapes Go.WideShapes Go.ChangeAt Go.RowKit
theorem wHr:ownKnob Try.prog.godebug=none:=by kernel_rfl
theorem wGx:laidOutB Try.prog=true:=by kernel_rfl
theorem wJE {H:Type} {enc:TypeId × Value->H} {W:World} {n:Nat} {cs:List Value} {y:DataW H × List MemPlace} (h:DataW.trod enc Try.prog W 0 (fun _=>true) true n 5 cs=some y):∃ x,cs=KL.encB8 x/\True:=by
 obtain ⟨x,e,_,_⟩:=DataW.trod_int Try.underlying5 h
 exact ⟨x,e,trivial⟩
theorem wGC:Try.prog.cellsOf 5=1:=by kernel_rfl
set_option maxRecDepth 100000 in
theorem wGD (os:Os) (started:os.Started) (H:Type) (enc:TypeId × Value->H) :
  ReturnsInHanded {} Try.checked os 3 .any (Rows.topArmedSpec.pre6 enc Try.prog Try.f3 Rows.topArmedRow.domain false) (Rows.topArmedSpec.post enc Try.prog Try.f3 false true false false):=by
 refine returnsInHanded_of_change (C:=Try.checked) wHr started (by kernel_rfl) Try.func3
  (ChangeSpec.witness6 (enc:=enc) (C:=Try.checked) false ⟨#[],#[.slice none 0 0,.int .i64 0,.int .i64 0],[]⟩ 8 (by kernel_rfl) (by kernel_rfl) (by kernel_rfl) (by kernel_rfl)) ?_
 intro W base args ds gs before hval0 hW hcnd _
 have hval:∀ (j:Nat) t v,Try.f3.params[j]?=some t->args[j]?=some v->Value.okWide Try.prog W .any base t v:=hval0
 have hW':=hW
 obtain ⟨p,q,hA0,hV,rfl,hfz,hnd⟩:=hW
 have hA:DataW.TrodAll enc Try.prog W 0 (fun _=>true) true Try.f3.params.toList args.toList ds p:=hA0
 rw [Try.params3] at hA hval
 obtain ⟨v0,v1,v2,d0,d1,d2,p0,p1,p2,rfl,rfl,rfl,h0,h1,h2⟩:=trodAll_three hA
 obtain ⟨rfl,rfl⟩:=trodVars_none hV
 obtain ⟨A0,k0,xs0,rfl,hS0,_⟩:=wIM (f:=KL.encB8) (sz:=1) (by decide) (fun _=>rfl) Try.underlying22 wGC (fun _=>True) (fun _ _ _=>wJE) h0 (okWide_slice Try.underlying22 (hval 0 22 v0 rfl rfl))
 obtain ⟨a1,rfl,rfl,rfl,wa1⟩:=open_int Try.underlying3 (hval 1 3 v1 rfl rfl) h1
 have hb1:-9223372036854775808 <= a1/\a1 <= 9223372036854775807:=by simpa [Lit.wf,IntKind.min,IntKind.max,IntKind.signed,IntKind.bits] using wa1
 obtain ⟨a2,rfl,rfl,rfl,wa2⟩:=open_int Try.underlying3 (hval 2 3 v2 rfl rfl) h2
 have hb2:-9223372036854775808 <= a2/\a2 <= 9223372036854775807:=by simpa [Lit.wf,IntKind.min,IntKind.max,IntKind.signed,IntKind.bits] using wa2
 have hg:=wDW xs0 A0 k0 a1 a2 W _ (St.start W) hS0 (wJD xs0 a1 a2 hb1.1 hb1.2 hb2.1 hb2.2)
 refine Calls.mono' hg fun e W' ⟨v,he,U',L',hst,hv,_⟩=>?_
 subst he;subst hv
 refine ⟨_,rfl,wIK (P:=Try.prog) hW' rfl wGx ?_ (t:=4) (by kernel_rfl) Try.underlying4 true rfl rfl rfl hst.kp0⟩
 rw [Try.params3]
 intro t ht
 simp only [List.mem_cons,List.not_mem_nil,or_false] at ht
 rcases ht with rfl | rfl | rfl
 ·exact ⟨by kernel_rfl,of_decide_eq_true (by kernel_rfl)⟩
 ·exact ⟨by kernel_rfl,of_decide_eq_true (by kernel_rfl)⟩
 ·exact ⟨by kernel_rfl,of_decide_eq_true (by kernel_rfl)⟩
theorem wJF:laidOutB Try.prog=true:=by kernel_rfl
theorem wJG:mapsRowed Try.prog=true:=by kernel_rfl
theorem wJH:(Try.prog.stops == [])=true:=by kernel_rfl
theorem wJI:(Try.prog.stopKnobs == [])=true:=by kernel_rfl
theorem wJJ:(Rows.topArmedRow.inPlace == Try.prog.inPlace 3)=true:=by kernel_rfl
theorem wJK:(Rows.topArmedRow.unfollowed == Try.prog.unfollowed 3)=true:=by kernel_rfl
theorem wJL:(Rows.topArmedRow.recurses == Try.prog.recurses 3)=true:=by kernel_rfl
theorem wJM:(Rows.topArmedRow.named == Try.prog.varsNamed 3)=true:=by kernel_rfl
theorem wJN:(Rows.topArmedRow.plainKeys == Try.prog.plainKeys)=true:=by kernel_rfl
theorem wJO:Try.prog.stopsHeard=true:=by kernel_rfl
theorem wHs:Try.prog.mayEnter=true:=by kernel_rfl
theorem wHt:(Rows.topArmedRow.lifted == Try.prog.liftsFinal)=true:=by kernel_rfl
theorem wHu:wEL Try.prog Try.f3 Rows.topArmedSpec Rows.topArmedRow=true:=by kernel_rfl
theorem wGE:joinedFacts Try.prog 3 Try.f3 Rows.topArmedSpec Rows.topArmedRow=true:=wIN wJF wJG wJH wJI wJJ wJK wJL wJM wJN wJO wHs wHt wHu
theorem top_armed:Rows.TopArmedSaid :=
 OpenClaim.holds_of_wide 3 Try.f3 rfl rfl rfl rfl rfl rfl rfl ⟨rfl,rfl,rfl,rfl,rfl⟩ rfl rfl rfl rfl rfl (by kernel_rfl) Try.func3 wGE
  (of_decide_eq_true (by kernel_rfl)) (by unfold Func.isWrapper;rw [if_neg (by decide +kernel)];exact ⟨rfl,rfl⟩)
  (fun os started H enc _=>wGD os started H enc)
#print axioms top_armed
end Go.Proofs.Ytnbcoenjobdplaa
