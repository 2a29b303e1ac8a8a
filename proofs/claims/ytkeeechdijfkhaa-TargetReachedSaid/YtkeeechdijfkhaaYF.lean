import Derived.Test.YtkeeechdijfkhaaRows
import Derived.Test.YtkeeechdijfkhaaY0
import Derived.Test.YtkeeechdijfkhaaY6
import Derived.Test.YtkeeechdijfkhaaY2
set_option linter.all false
namespace Go.Proofs.Ytkeeechdijfkhaa
open Go.KL
open Go.ChangeShapes Go.WideShapes Go.ChangeAt Go.RowKit
theorem wHu:ownKnob Try.prog.godebug=none:=by kernel_rfl
theorem wHN:laidOutB Try.prog=true:=by kernel_rfl
theorem wIl {H:Type} {enc:TypeId × Value->H} {W:World} {n:Nat} {cs:List Value} {y:DataW H × List MemPlace} (h:DataW.trod enc Try.prog W 0 (fun _=>true) true n 5 cs=some y):∃ x,cs=KL.encB8 x/\True:=by
 obtain ⟨x,e,_,_⟩:=DataW.trod_int Try.underlying5 h
 exact ⟨x,e,trivial⟩
theorem wGG:Try.prog.cellsOf 5=1:=by kernel_rfl
set_option maxRecDepth 100000 in
theorem wGH (os:Os) (started:os.Started) (H:Type) (enc:TypeId × Value->H) :
  ReturnsInHanded {} Try.checked os 3 .any (Rows.targetReachedSpec.pre6 enc Try.prog Try.f3 Rows.targetReachedRow.domain false) (Rows.targetReachedSpec.post enc Try.prog Try.f3 false true false false):=by
 refine returnsInHanded_of_change (C:=Try.checked) wHu started (by kernel_rfl) Try.func3
  (ChangeSpec.witness6 (enc:=enc) (C:=Try.checked) false ⟨#[],#[.slice none 0 0,.int .u8 0,.int .u8 0],[]⟩ 8 (by kernel_rfl) (by kernel_rfl) (by kernel_rfl) (by kernel_rfl)) ?_
 intro W base args ds gs before hval0 hW hcnd _
 have hval:∀ (j:Nat) t v,Try.f3.params[j]?=some t->args[j]?=some v->Value.okWide Try.prog W .any base t v:=hval0
 have hW':=hW
 obtain ⟨p,q,hA0,hV,rfl,hfz,hnd⟩:=hW
 have hA:DataW.TrodAll enc Try.prog W 0 (fun _=>true) true Try.f3.params.toList args.toList ds p:=hA0
 rw [Try.params3] at hA hval
 obtain ⟨v0,v1,v2,d0,d1,d2,p0,p1,p2,rfl,rfl,rfl,h0,h1,h2⟩:=trodAll_three hA
 obtain ⟨rfl,rfl⟩:=trodVars_none hV
 obtain ⟨A0,k0,xs0,rfl,hS0,_⟩:=wKN (f:=KL.encB8) (sz:=1) (by decide) (fun _=>rfl) Try.underlying22 wGG (fun _=>True) (fun _ _ _=>wIl) h0 (okWide_slice Try.underlying22 (hval 0 22 v0 rfl rfl))
 obtain ⟨a1,rfl,rfl,rfl,wa1⟩:=open_int Try.underlying5 (hval 1 5 v1 rfl rfl) h1
 have hb1:0 <= a1/\a1 <= 255:=by simpa [Lit.wf,IntKind.min,IntKind.max,IntKind.signed,IntKind.bits] using wa1
 obtain ⟨a2,rfl,rfl,rfl,wa2⟩:=open_int Try.underlying5 (hval 2 5 v2 rfl rfl) h2
 have hb2:0 <= a2/\a2 <= 255:=by simpa [Lit.wf,IntKind.min,IntKind.max,IntKind.signed,IntKind.bits] using wa2
 have hg:=wCX xs0 A0 k0 a1 a2 W _ (St.start W) hS0 (wIk xs0 a1 a2 hb1.1 hb1.2 hb2.1 hb2.2)
 refine Calls.mono' hg fun e W' ⟨v,he,U',L',hst,hv,_⟩=>?_
 subst he;subst hv
 refine ⟨_,rfl,wKL (P:=Try.prog) hW' rfl wHN ?_ (t:=4) (by kernel_rfl) Try.underlying4 true rfl rfl rfl hst.kp0⟩
 rw [Try.params3]
 intro t ht
 simp only [List.mem_cons,List.not_mem_nil,or_false] at ht
 rcases ht with rfl | rfl | rfl
 ·exact ⟨by kernel_rfl,of_decide_eq_true (by kernel_rfl)⟩
 ·exact ⟨by kernel_rfl,of_decide_eq_true (by kernel_rfl)⟩
 ·exact ⟨by kernel_rfl,of_decide_eq_true (by kernel_rfl)⟩
theorem wIm:laidOutB Try.prog=true:=by kernel_rfl
theorem wIn:mapsRowed Try.prog=true:=by kernel_rfl
theorem wIo:(Try.prog.stops == [])=true:=by kernel_rfl
theorem wIp:(Try.prog.stopKnobs == [])=true:=by kernel_rfl
theorem wIq:(Rows.targetReachedRow.inPlace == Try.prog.inPlace 3)=true:=by kernel_rfl
theorem wIr:(Rows.targetReachedRow.unfollowed == Try.prog.unfollowed 3)=true:=by kernel_rfl
theorem wIs:(Rows.targetReachedRow.recurses == Try.prog.recurses 3)=true:=by kernel_rfl
theorem wIt:(Rows.targetReachedRow.named == Try.prog.varsNamed 3)=true:=by kernel_rfl
theorem wIu:(Rows.targetReachedRow.plainKeys == Try.prog.plainKeys)=true:=by kernel_rfl
theorem wIv:Try.prog.stopsHeard=true:=by kernel_rfl
theorem wHv:Try.prog.mayEnter=true:=by kernel_rfl
theorem wHw:(Rows.targetReachedRow.lifted == Try.prog.liftsFinal)=true:=by kernel_rfl
theorem wHx:wEk Try.prog Try.f3 Rows.targetReachedSpec Rows.targetReachedRow=true:=by kernel_rfl
theorem wGI:joinedFacts Try.prog 3 Try.f3 Rows.targetReachedSpec Rows.targetReachedRow=true:=wKO wIm wIn wIo wIp wIq wIr wIs wIt wIu wIv wHv wHw wHx
theorem target_reached:Rows.TargetReachedSaid :=
 OpenClaim.holds_of_wide 3 Try.f3 rfl rfl rfl rfl rfl rfl rfl ⟨rfl,rfl,rfl,rfl,rfl⟩ rfl rfl rfl rfl rfl (by kernel_rfl) Try.func3 wGI
  (of_decide_eq_true (by kernel_rfl)) (by unfold Func.isWrapper;rw [if_neg (by decide +kernel)];exact ⟨rfl,rfl⟩)
  (fun os started H enc _=>wGH os started H enc)
#print axioms target_reached
end Go.Proofs.Ytkeeechdijfkhaa
