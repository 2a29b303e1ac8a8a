import Derived.Test.YtghaibkggdecnaaGreatRows
import Derived.Test.YtghaibkggdecnaaGreatQ0
import Derived.Test.YtghaibkggdecnaaGreatQ8
import Derived.Test.YtghaibkggdecnaaGreatQ4
set_option linter.all false
namespace Go.Proofs.YtghaibkggdecnaaGreat
open Go.KL
open Go.ChangeShapes Go.WideShapes Go.ChangeAt Go.RowKit
theorem wJp:ownKnob Tryz.prog.godebug=none:=by kernel_rfl
theorem wIY:laidOutB Tryz.prog=true:=by kernel_rfl
theorem wHe {H:Type} {enc:TypeId × Value->H} {W:World} {n:Nat} {cs:List Value} {y:DataW H × List MemPlace} (h:DataW.trod enc Tryz.prog W 0 (fun _=>true) true n 5 cs=some y):∃ x,cs=KL.encB8 x/\True:=by
 obtain ⟨x,e,_,_⟩:=DataW.trod_int Tryz.underlying5 h
 exact ⟨x,e,trivial⟩
theorem wEM:Tryz.prog.cellsOf 5=1:=by kernel_rfl
set_option maxRecDepth 100000 in
theorem wGp (os:Os) (started:os.Started) (H:Type) (enc:TypeId × Value->H) :
  ReturnsInHanded {} Tryz.checked os 7 .any (Rows.startApartSpec.pre6 enc Tryz.prog Tryz.f7 Rows.startApartRow.domain false) (Rows.startApartSpec.post enc Tryz.prog Tryz.f7 false true false false):=by
 refine returnsInHanded_of_change (C:=Tryz.checked) wJp started (by kernel_rfl) Tryz.func7
  (ChangeSpec.witness6 (enc:=enc) (C:=Tryz.checked) false ⟨#[],#[.slice none 0 0,.slice none 0 0],[]⟩ 8 (by kernel_rfl) (by kernel_rfl) (by kernel_rfl) (by kernel_rfl)) ?_
 intro W base args ds gs before hval0 hW hcnd _
 have hval:∀ (j:Nat) t v,Tryz.f7.params[j]?=some t->args[j]?=some v->Value.okWide Tryz.prog W .any base t v:=hval0
 have hW':=hW
 obtain ⟨p,q,hA0,hV,rfl,hfz,hnd⟩:=hW
 have hA:DataW.TrodAll enc Tryz.prog W 0 (fun _=>true) true Tryz.f7.params.toList args.toList ds p:=hA0
 rw [Tryz.params7] at hA hval
 obtain ⟨v0,v1,d0,d1,p0,p1,rfl,rfl,rfl,h0,h1⟩:=trodAll_two hA
 obtain ⟨rfl,rfl⟩:=trodVars_none hV
 obtain ⟨A0,k0,xs0,rfl,hS0,_⟩:=wHA (f:=KL.encB8) (sz:=1) (by decide) (fun _=>rfl) Tryz.underlying46 wEM (fun _=>True) (fun _ _ _=>wHe) h0 (okWide_slice Tryz.underlying46 (hval 0 46 v0 rfl rfl))
 obtain ⟨A1,k1,xs1,rfl,hS1,_⟩:=wHA (f:=KL.encB8) (sz:=1) (by decide) (fun _=>rfl) Tryz.underlying46 wEM (fun _=>True) (fun _ _ _=>wHe) h1 (okWide_slice Tryz.underlying46 (hval 1 46 v1 rfl rfl))
 have hg:=wCc xs0 A0 k0 xs1 A1 k1 W _ (St.start W) hS0 hS1 (wMF xs0 xs1)
 refine Calls.mono' hg fun e W' ⟨v,he,U',L',hst,hv,_⟩=>?_
 subst he;subst hv
 refine ⟨_,rfl,wKE (P:=Tryz.prog) hW' rfl wIY ?_ (t:=4) (by kernel_rfl) Tryz.underlying4 true rfl rfl rfl hst.kp0⟩
 rw [Tryz.params7]
 intro t ht
 simp only [List.mem_cons,List.not_mem_nil,or_false] at ht
 rcases ht with rfl | rfl
 ·exact ⟨by kernel_rfl,of_decide_eq_true (by kernel_rfl)⟩
 ·exact ⟨by kernel_rfl,of_decide_eq_true (by kernel_rfl)⟩
theorem wMG:laidOutB Tryz.prog=true:=by kernel_rfl
theorem wMH:mapsRowed Tryz.prog=true:=by kernel_rfl
theorem wMI:(Tryz.prog.stops == [])=true:=by kernel_rfl
theorem wMJ:(Tryz.prog.stopKnobs == [])=true:=by kernel_rfl
theorem wMK:(Rows.startApartRow.inPlace == Tryz.prog.inPlace 7)=true:=by kernel_rfl
theorem wML:(Rows.startApartRow.unfollowed == Tryz.prog.unfollowed 7)=true:=by kernel_rfl
theorem wMM:(Rows.startApartRow.recurses == Tryz.prog.recurses 7)=true:=by kernel_rfl
theorem wMN:(Rows.startApartRow.named == Tryz.prog.varsNamed 7)=true:=by kernel_rfl
theorem wMO:(Rows.startApartRow.plainKeys == Tryz.prog.plainKeys)=true:=by kernel_rfl
theorem wMP:Tryz.prog.stopsHeard=true:=by kernel_rfl
theorem wJq:Tryz.prog.mayEnter=true:=by kernel_rfl
theorem wJr:(Rows.startApartRow.lifted == Tryz.prog.liftsFinal)=true:=by kernel_rfl
theorem wJs:wER Tryz.prog Tryz.f7 Rows.startApartSpec Rows.startApartRow=true:=by kernel_rfl
theorem wGq:joinedFacts Tryz.prog 7 Tryz.f7 Rows.startApartSpec Rows.startApartRow=true:=wKG wMG wMH wMI wMJ wMK wML wMM wMN wMO wMP wJq wJr wJs
theorem start_apart:Rows.StartApartSaid :=
 OpenClaim.holds_of_wide 7 Tryz.f7 rfl rfl rfl rfl rfl rfl rfl ⟨rfl,rfl,rfl,rfl,rfl⟩ rfl rfl rfl rfl rfl (by kernel_rfl) Tryz.func7 wGq
  (of_decide_eq_true (by kernel_rfl)) (by unfold Func.isWrapper;rw [if_neg (by decide +kernel)];exact ⟨rfl,rfl⟩)
  (fun os started H enc _=>wGp os started H enc)
#print axioms start_apart
end Go.Proofs.YtghaibkggdecnaaGreat
