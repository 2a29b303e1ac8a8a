import Derived.Test.YtglpalgiipahjaaGreatRows
import Derived.Test.YtglpalgiipahjaaGreatS0
import Derived.Test.YtglpalgiipahjaaGreatS12
import Derived.Test.YtglpalgiipahjaaGreatS6
set_option linter.all false
namespace Go.Proofs.YtglpalgiipahjaaGreat
open Go.KL
open Go.ChangeShapes Go.WideShapes Go.ChangeAt Go.RowKit
theorem wME:ownKnob Tryz.prog.godebug=none:=by kernel_rfl
theorem wKe:laidOutB Tryz.prog=true:=by kernel_rfl
theorem wJZ {H:Type} {enc:TypeId × Value->H} {W:World} {n:Nat} {cs:List Value} {y:DataW H × List MemPlace} (h:DataW.trod enc Tryz.prog W 0 (fun _=>true) true n 5 cs=some y):∃ x,cs=KL.encB8 x/\True:=by
 obtain ⟨x,e,_,_⟩:=DataW.trod_int Tryz.underlying5 h
 exact ⟨x,e,trivial⟩
theorem wFh:Tryz.prog.cellsOf 5=1:=by kernel_rfl
set_option maxRecDepth 100000 in
theorem wIc (os:Os) (started:os.Started) (H:Type) (enc:TypeId × Value->H) :
  ReturnsInHanded {} Tryz.checked os 10 .any (Rows.startNamedSpec.pre6 enc Tryz.prog Tryz.f10 Rows.startNamedRow.domain false) (Rows.startNamedSpec.post enc Tryz.prog Tryz.f10 false true false false):=by
 refine returnsInHanded_of_change (C:=Tryz.checked) wME started (by kernel_rfl) Tryz.func10
  (ChangeSpec.witness6 (enc:=enc) (C:=Tryz.checked) false ⟨#[],#[.slice none 0 0,.slice none 0 0],[]⟩ 8 (by kernel_rfl) (by kernel_rfl) (by kernel_rfl) (by kernel_rfl)) ?_
 intro W base args ds gs before hval0 hW hcnd _
 have hval:∀ (j:Nat) t v,Tryz.f10.params[j]?=some t->args[j]?=some v->Value.okWide Tryz.prog W .any base t v:=hval0
 have hW':=hW
 obtain ⟨p,q,hA0,hV,rfl,hfz,hnd⟩:=hW
 have hA:DataW.TrodAll enc Tryz.prog W 0 (fun _=>true) true Tryz.f10.params.toList args.toList ds p:=hA0
 rw [Tryz.params10] at hA hval
 obtain ⟨v0,v1,d0,d1,p0,p1,rfl,rfl,rfl,h0,h1⟩:=trodAll_two hA
 obtain ⟨rfl,rfl⟩:=trodVars_none hV
 obtain ⟨A0,k0,xs0,rfl,hS0,_⟩:=wIn (f:=KL.encB8) (sz:=1) (by decide) (fun _=>rfl) Tryz.underlying61 wFh (fun _=>True) (fun _ _ _=>wJZ) h0 (okWide_slice Tryz.underlying61 (hval 0 61 v0 rfl rfl))
 obtain ⟨A1,k1,xs1,rfl,hS1,_⟩:=wIn (f:=KL.encB8) (sz:=1) (by decide) (fun _=>rfl) Tryz.underlying61 wFh (fun _=>True) (fun _ _ _=>wJZ) h1 (okWide_slice Tryz.underlying61 (hval 1 61 v1 rfl rfl))
 have hg:=wDf xs0 A0 k0 xs1 A1 k1 W _ (St.start W) hS0 hS1 (wOc xs0 xs1)
 refine Calls.mono' hg fun e W' ⟨v,he,U',L',hst,hv,_⟩=>?_
 subst he;subst hv
 refine ⟨_,rfl,wMV (P:=Tryz.prog) hW' rfl wKe ?_ (t:=4) (by kernel_rfl) Tryz.underlying4 true rfl rfl rfl hst.kp0⟩
 rw [Tryz.params10]
 intro t ht
 simp only [List.mem_cons,List.not_mem_nil,or_false] at ht
 rcases ht with rfl | rfl
 ·exact ⟨by kernel_rfl,of_decide_eq_true (by kernel_rfl)⟩
 ·exact ⟨by kernel_rfl,of_decide_eq_true (by kernel_rfl)⟩
theorem wOd:laidOutB Tryz.prog=true:=by kernel_rfl
theorem wOe:mapsRowed Tryz.prog=true:=by kernel_rfl
theorem wOf:(Tryz.prog.stops == [])=true:=by kernel_rfl
theorem wOg:(Tryz.prog.stopKnobs == [])=true:=by kernel_rfl
theorem wOh:(Rows.startNamedRow.inPlace == Tryz.prog.inPlace 10)=true:=by kernel_rfl
theorem wOi:(Rows.startNamedRow.unfollowed == Tryz.prog.unfollowed 10)=true:=by kernel_rfl
theorem wOj:(Rows.startNamedRow.recurses == Tryz.prog.recurses 10)=true:=by kernel_rfl
theorem wOk:(Rows.startNamedRow.named == Tryz.prog.varsNamed 10)=true:=by kernel_rfl
theorem wOl:(Rows.startNamedRow.plainKeys == Tryz.prog.plainKeys)=true:=by kernel_rfl
theorem wOm:Tryz.prog.stopsHeard=true:=by kernel_rfl
theorem wMF:Tryz.prog.mayEnter=true:=by kernel_rfl
theorem wMG:(Rows.startNamedRow.lifted == Tryz.prog.liftsFinal)=true:=by kernel_rfl
theorem wMH:wFl Tryz.prog Tryz.f10 Rows.startNamedSpec Rows.startNamedRow=true:=by kernel_rfl
theorem wId:joinedFacts Tryz.prog 10 Tryz.f10 Rows.startNamedSpec Rows.startNamedRow=true:=wMX wOd wOe wOf wOg wOh wOi wOj wOk wOl wOm wMF wMG wMH
theorem start_named:Rows.StartNamedSaid :=
 OpenClaim.holds_of_wide 10 Tryz.f10 rfl rfl rfl rfl rfl rfl rfl ⟨rfl,rfl,rfl,rfl,rfl⟩ rfl rfl rfl rfl rfl (by kernel_rfl) Tryz.func10 wId
  (of_decide_eq_true (by kernel_rfl)) (by unfold Func.isWrapper;rw [if_neg (by decide +kernel)];exact ⟨rfl,rfl⟩)
  (fun os started H enc _=>wIc os started H enc)
#print axioms start_named
end Go.Proofs.YtglpalgiipahjaaGreat
