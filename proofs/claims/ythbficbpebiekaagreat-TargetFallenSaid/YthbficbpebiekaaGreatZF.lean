import Derived.Test.YthbficbpebiekaaGreatRows
import Derived.Test.YthbficbpebiekaaGreatZ0
import Derived.Test.YthbficbpebiekaaGreatZ6
import Derived.Test.YthbficbpebiekaaGreatZ2
namespace Go.Proofs.YthbficbpebiekaaGreat
open Go.KL
open Go.ChangeShapes Go.WideShapes Go.ChangeAt Go.RowKit
theorem wHD:ownKnob Tryz.prog.godebug=none:=by kernel_rfl
theorem wGK:laidOutB Tryz.prog=true:=by kernel_rfl
theorem wFI {H:Type} {enc:TypeId × Value->H} {W:World} {n:Nat} {cs:List Value} {y:DataW H × List MemPlace} (h:DataW.trod enc Tryz.prog W 0 (fun _=>true) true n 5 cs=some y):∃ x,cs=KL.encB8 x/\True:=by
 obtain ⟨x,e,_,_⟩:=DataW.trod_int Tryz.underlying5 h
 exact ⟨x,e,trivial⟩
theorem wCd:Tryz.prog.cellsOf 5=1:=by kernel_rfl
set_option maxRecDepth 100000 in
theorem wEq (os:Os) (started:os.Started) (H:Type) (enc:TypeId × Value->H) :
  ReturnsInHanded {} Tryz.checked os 4 .any (Rows.targetFallenSpec.pre6 enc Tryz.prog Tryz.f4 Rows.targetFallenRow.domain false) (Rows.targetFallenSpec.post enc Tryz.prog Tryz.f4 false true false false):=by
 refine returnsInHanded_of_change (C:=Tryz.checked) wHD started (by kernel_rfl) Tryz.func4
  (ChangeSpec.witness6 (enc:=enc) (C:=Tryz.checked) false ⟨#[],#[.slice none 0 0,.slice none 0 0],[]⟩ 8 (by kernel_rfl) (by kernel_rfl) (by kernel_rfl) (by kernel_rfl)) ?_
 intro W base args ds gs before hval0 hW hcnd _
 have hval:∀ (j:Nat) t v,Tryz.f4.params[j]?=some t->args[j]?=some v->Value.okWide Tryz.prog W .any base t v:=hval0
 have hW':=hW
 obtain ⟨p,q,hA0,hV,rfl,hfz,hnd⟩:=hW
 have hA:DataW.TrodAll enc Tryz.prog W 0 (fun _=>true) true Tryz.f4.params.toList args.toList ds p:=hA0
 rw [Tryz.params4] at hA hval
 obtain ⟨v0,v1,d0,d1,p0,p1,rfl,rfl,rfl,h0,h1⟩:=trodAll_two hA
 obtain ⟨rfl,rfl⟩:=trodVars_none hV
 obtain ⟨A0,k0,xs0,rfl,hS0,_⟩:=wFq (f:=KL.encB8) (sz:=1) (by decide) (fun _=>rfl) Tryz.underlying60 wCd (fun _=>True) (fun _ _ _=>wFI) h0 (okWide_slice Tryz.underlying60 (hval 0 60 v0 rfl rfl))
 obtain ⟨A1,k1,xs1,rfl,hS1,_⟩:=wFq (f:=KL.encB8) (sz:=1) (by decide) (fun _=>rfl) Tryz.underlying60 wCd (fun _=>True) (fun _ _ _=>wFI) h1 (okWide_slice Tryz.underlying60 (hval 1 60 v1 rfl rfl))
 have hg:=wBf xs0 A0 k0 xs1 A1 k1 W _ (St.start W) hS0 hS1 (wIQ xs0 xs1)
 refine Calls.mono' hg fun e W' ⟨v,he,U',L',hst,hv,_⟩=>?_
 subst he;subst hv
 refine ⟨_,rfl,wIo (P:=Tryz.prog) hW' rfl wGK ?_ (t:=4) (by kernel_rfl) Tryz.underlying4 true rfl rfl rfl hst.kp0⟩
 rw [Tryz.params4]
 intro t ht
 simp only [List.mem_cons,List.not_mem_nil,or_false] at ht
 rcases ht with rfl | rfl
 ·exact ⟨by kernel_rfl,of_decide_eq_true (by kernel_rfl)⟩
 ·exact ⟨by kernel_rfl,of_decide_eq_true (by kernel_rfl)⟩
theorem wIR:laidOutB Tryz.prog=true:=by kernel_rfl
theorem wIS:mapsRowed Tryz.prog=true:=by kernel_rfl
theorem wIT:(Tryz.prog.stops == [])=true:=by kernel_rfl
theorem wIU:(Tryz.prog.stopKnobs == [])=true:=by kernel_rfl
theorem wIV:(Rows.targetFallenRow.inPlace == Tryz.prog.inPlace 4)=true:=by kernel_rfl
theorem wIW:(Rows.targetFallenRow.unfollowed == Tryz.prog.unfollowed 4)=true:=by kernel_rfl
theorem wIX:(Rows.targetFallenRow.recurses == Tryz.prog.recurses 4)=true:=by kernel_rfl
theorem wIY:(Rows.targetFallenRow.named == Tryz.prog.varsNamed 4)=true:=by kernel_rfl
theorem wIZ:(Rows.targetFallenRow.plainKeys == Tryz.prog.plainKeys)=true:=by kernel_rfl
theorem wIa:Tryz.prog.stopsHeard=true:=by kernel_rfl
theorem wHE:Tryz.prog.mayEnter=true:=by kernel_rfl
theorem wHF:(Rows.targetFallenRow.lifted == Tryz.prog.liftsFinal)=true:=by kernel_rfl
theorem wHG:wDV Tryz.prog Tryz.f4 Rows.targetFallenSpec Rows.targetFallenRow=true:=by kernel_rfl
theorem wEr:joinedFacts Tryz.prog 4 Tryz.f4 Rows.targetFallenSpec Rows.targetFallenRow=true:=wIq wIR wIS wIT wIU wIV wIW wIX wIY wIZ wIa wHE wHF wHG
theorem target_fallen:Rows.TargetFallenSaid :=
 OpenClaim.holds_of_wide 4 Tryz.f4 rfl rfl rfl rfl rfl rfl rfl ⟨rfl,rfl,rfl,rfl,rfl⟩ rfl rfl rfl rfl rfl (by kernel_rfl) Tryz.func4 wEr
  (of_decide_eq_true (by kernel_rfl)) (by unfold Func.isWrapper;rw [if_neg (by decide +kernel)];exact ⟨rfl,rfl⟩)
  (fun os started H enc _=>wEq os started H enc)
#print axioms target_fallen
end Go.Proofs.YthbficbpebiekaaGreat
