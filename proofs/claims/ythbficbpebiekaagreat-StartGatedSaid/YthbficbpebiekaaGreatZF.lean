import Derived.Test.YthbficbpebiekaaGreatRows
import Derived.Test.YthbficbpebiekaaGreatZ0
import Derived.Test.YthbficbpebiekaaGreatZ5
import Derived.Test.YthbficbpebiekaaGreatZ2
set_option linter.all false
namespace Go.Proofs.YthbficbpebiekaaGreat
open Go.KL
open Go.ChangeShapes Go.WideShapes Go.ChangeAt Go.RowKit
theorem wIv:ownKnob Tryz.prog.godebug=none:=by kernel_rfl
theorem wHk:laidOutB Tryz.prog=true:=by kernel_rfl
theorem wGs {H:Type} {enc:TypeId × Value->H} {W:World} {n:Nat} {cs:List Value} {y:DataW H × List MemPlace} (h:DataW.trod enc Tryz.prog W 0 (fun _=>true) true n 5 cs=some y):∃ x,cs=KL.encB8 x/\True:=by
 obtain ⟨x,e,_,_⟩:=DataW.trod_int Tryz.underlying5 h
 exact ⟨x,e,trivial⟩
theorem wDd:Tryz.prog.cellsOf 5=1:=by kernel_rfl
set_option maxRecDepth 100000 in
theorem wGI (os:Os) (started:os.Started) (H:Type) (enc:TypeId × Value->H) :
  ReturnsInHanded {} Tryz.checked os 6 .any (Rows.startGatedSpec.pre6 enc Tryz.prog Tryz.f6 Rows.startGatedRow.domain false) (Rows.startGatedSpec.post enc Tryz.prog Tryz.f6 false true false false):=by
 refine returnsInHanded_of_change (C:=Tryz.checked) wIv started (by kernel_rfl) Tryz.func6
  (ChangeSpec.witness6 (enc:=enc) (C:=Tryz.checked) false ⟨#[],#[.slice none 0 0,.slice none 0 0,.int .i64 0],[]⟩ 8 (by kernel_rfl) (by kernel_rfl) (by kernel_rfl) (by kernel_rfl)) ?_
 intro W base args ds gs before hval0 hW hcnd _
 have hval:∀ (j:Nat) t v,Tryz.f6.params[j]?=some t->args[j]?=some v->Value.okWide Tryz.prog W .any base t v:=hval0
 have hW':=hW
 obtain ⟨p,q,hA0,hV,rfl,hfz,hnd⟩:=hW
 have hA:DataW.TrodAll enc Tryz.prog W 0 (fun _=>true) true Tryz.f6.params.toList args.toList ds p:=hA0
 rw [Tryz.params6] at hA hval
 obtain ⟨v0,v1,v2,d0,d1,d2,p0,p1,p2,rfl,rfl,rfl,h0,h1,h2⟩:=trodAll_three hA
 obtain ⟨rfl,rfl⟩:=trodVars_none hV
 obtain ⟨A0,k0,xs0,rfl,hS0,_⟩:=wGT (f:=KL.encB8) (sz:=1) (by decide) (fun _=>rfl) Tryz.underlying60 wDd (fun _=>True) (fun _ _ _=>wGs) h0 (okWide_slice Tryz.underlying60 (hval 0 60 v0 rfl rfl))
 obtain ⟨A1,k1,xs1,rfl,hS1,_⟩:=wGT (f:=KL.encB8) (sz:=1) (by decide) (fun _=>rfl) Tryz.underlying60 wDd (fun _=>True) (fun _ _ _=>wGs) h1 (okWide_slice Tryz.underlying60 (hval 1 60 v1 rfl rfl))
 obtain ⟨a2,rfl,rfl,rfl,wa2⟩:=open_int Tryz.underlying3 (hval 2 3 v2 rfl rfl) h2
 have hb2:-9223372036854775808 <= a2/\a2 <= 9223372036854775807:=by simpa [Lit.wf,IntKind.min,IntKind.max,IntKind.signed,IntKind.bits] using wa2
 have hg:=wBy xs0 A0 k0 xs1 A1 k1 a2 W _ (St.start W) hS0 hS1 (wLC xs0 xs1 a2 hb2.1 hb2.2)
 refine Calls.mono' hg fun e W' ⟨v,he,U',L',hst,hv,_⟩=>?_
 subst he;subst hv
 refine ⟨_,rfl,wJJ (P:=Tryz.prog) hW' rfl wHk ?_ (t:=4) (by kernel_rfl) Tryz.underlying4 true rfl rfl rfl hst.kp0⟩
 rw [Tryz.params6]
 intro t ht
 simp only [List.mem_cons,List.not_mem_nil,or_false] at ht
 rcases ht with rfl | rfl | rfl
 ·exact ⟨by kernel_rfl,of_decide_eq_true (by kernel_rfl)⟩
 ·exact ⟨by kernel_rfl,of_decide_eq_true (by kernel_rfl)⟩
 ·exact ⟨by kernel_rfl,of_decide_eq_true (by kernel_rfl)⟩
theorem wLD:laidOutB Tryz.prog=true:=by kernel_rfl
theorem wLE:mapsRowed Tryz.prog=true:=by kernel_rfl
theorem wLF:(Tryz.prog.stops == [])=true:=by kernel_rfl
theorem wLG:(Tryz.prog.stopKnobs == [])=true:=by kernel_rfl
theorem wLH:(Rows.startGatedRow.inPlace == Tryz.prog.inPlace 6)=true:=by kernel_rfl
theorem wLI:(Rows.startGatedRow.unfollowed == Tryz.prog.unfollowed 6)=true:=by kernel_rfl
theorem wLJ:(Rows.startGatedRow.recurses == Tryz.prog.recurses 6)=true:=by kernel_rfl
theorem wLK:(Rows.startGatedRow.named == Tryz.prog.varsNamed 6)=true:=by kernel_rfl
theorem wLL:(Rows.startGatedRow.plainKeys == Tryz.prog.plainKeys)=true:=by kernel_rfl
theorem wLM:Tryz.prog.stopsHeard=true:=by kernel_rfl
theorem wIw:Tryz.prog.mayEnter=true:=by kernel_rfl
theorem wIx:(Rows.startGatedRow.lifted == Tryz.prog.liftsFinal)=true:=by kernel_rfl
theorem wIy:wDi Tryz.prog Tryz.f6 Rows.startGatedSpec Rows.startGatedRow=true:=by kernel_rfl
theorem wGJ:joinedFacts Tryz.prog 6 Tryz.f6 Rows.startGatedSpec Rows.startGatedRow=true:=wJL wLD wLE wLF wLG wLH wLI wLJ wLK wLL wLM wIw wIx wIy
theorem start_gated:Rows.StartGatedSaid :=
 OpenClaim.holds_of_wide 6 Tryz.f6 rfl rfl rfl rfl rfl rfl rfl ⟨rfl,rfl,rfl,rfl,rfl⟩ rfl rfl rfl rfl rfl (by kernel_rfl) Tryz.func6 wGJ
  (of_decide_eq_true (by kernel_rfl)) (by unfold Func.isWrapper;rw [if_neg (by decide +kernel)];exact ⟨rfl,rfl⟩)
  (fun os started H enc _=>wGI os started H enc)
#print axioms start_gated
end Go.Proofs.YthbficbpebiekaaGreat
