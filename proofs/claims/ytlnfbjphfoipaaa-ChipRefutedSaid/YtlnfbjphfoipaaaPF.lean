import Derived.Test.YtlnfbjphfoipaaaRows
import Derived.Test.YtlnfbjphfoipaaaP0
import Derived.Test.YtlnfbjphfoipaaaP7
import Derived.Test.YtlnfbjphfoipaaaP1
set_option linter.all false
namespace Go.Proofs.Ytlnfbjphfoipaaa
open Go.KL
open Go.ChangeShapes Go.WideShapes Go.ChangeAt Go.RowKit
theorem wIF:ownKnob Try.prog.godebug=none:=by kernel_rfl
theorem wHc:laidOutB Try.prog=true:=by kernel_rfl
theorem wFL {H:Type} {enc:TypeId × Value->H} {W:World} {n:Nat} {cs:List Value} {y:DataW H × List MemPlace} (h:DataW.trod enc Try.prog W 0 (fun _=>true) true n 5 cs=some y):∃ x,cs=KL.encB8 x/\True:=by
 obtain ⟨x,e,_,_⟩:=DataW.trod_int Try.underlying5 h
 exact ⟨x,e,trivial⟩
theorem wEF:Try.prog.cellsOf 5=1:=by kernel_rfl
set_option maxRecDepth 100000 in
theorem wGf (os:Os) (started:os.Started) (H:Type) (enc:TypeId × Value->H) :
  ReturnsInHanded {} Try.checked os 5 .any (Rows.chipRefutedSpec.pre6 enc Try.prog Try.f5 Rows.chipRefutedRow.domain false) (Rows.chipRefutedSpec.post enc Try.prog Try.f5 false true false false):=by
 refine returnsInHanded_of_change (C:=Try.checked) wIF started (by kernel_rfl) Try.func5
  (ChangeSpec.witness6 (enc:=enc) (C:=Try.checked) false ⟨#[],#[.slice none 0 0,.slice none 0 0,.slice none 0 0],[]⟩ 8 (by kernel_rfl) (by kernel_rfl) (by kernel_rfl) (by kernel_rfl)) ?_
 intro W base args ds gs before hval0 hW hcnd _
 have hval:∀ (j:Nat) t v,Try.f5.params[j]?=some t->args[j]?=some v->Value.okWide Try.prog W .any base t v:=hval0
 have hW':=hW
 obtain ⟨p,q,hA0,hV,rfl,hfz,hnd⟩:=hW
 have hA:DataW.TrodAll enc Try.prog W 0 (fun _=>true) true Try.f5.params.toList args.toList ds p:=hA0
 rw [Try.params5] at hA hval
 obtain ⟨v0,v1,v2,d0,d1,d2,p0,p1,p2,rfl,rfl,rfl,h0,h1,h2⟩:=trodAll_three hA
 obtain ⟨rfl,rfl⟩:=trodVars_none hV
 obtain ⟨A0,k0,xs0,rfl,hS0,_⟩:=wGX (f:=KL.encB8) (sz:=1) (by decide) (fun _=>rfl) Try.underlying22 wEF (fun _=>True) (fun _ _ _=>wFL) h0 (okWide_slice Try.underlying22 (hval 0 22 v0 rfl rfl))
 obtain ⟨A1,k1,xs1,rfl,hS1,_⟩:=wGX (f:=KL.encB8) (sz:=1) (by decide) (fun _=>rfl) Try.underlying22 wEF (fun _=>True) (fun _ _ _=>wFL) h1 (okWide_slice Try.underlying22 (hval 1 22 v1 rfl rfl))
 obtain ⟨A2,k2,xs2,rfl,hS2,_⟩:=wGX (f:=KL.encB8) (sz:=1) (by decide) (fun _=>rfl) Try.underlying22 wEF (fun _=>True) (fun _ _ _=>wFL) h2 (okWide_slice Try.underlying22 (hval 2 22 v2 rfl rfl))
 have hg:=wEH xs0 A0 k0 xs1 A1 k1 xs2 A2 k2 W _ (St.start W) hS0 hS1 hS2 (wIb xs0 xs1 xs2)
 refine Calls.mono' hg fun e W' ⟨v,he,φ',L',hst,hv,_⟩=>?_
 subst he;subst hv
 refine ⟨_,rfl,wJu (P:=Try.prog) hW' rfl wHc ?_ (t:=4) (by kernel_rfl) Try.underlying4 true rfl rfl rfl hst.kp0⟩
 rw [Try.params5]
 intro t ht
 simp only [List.mem_cons,List.not_mem_nil,or_false] at ht
 rcases ht with rfl | rfl | rfl
 ·exact ⟨by kernel_rfl,of_decide_eq_true (by kernel_rfl)⟩
 ·exact ⟨by kernel_rfl,of_decide_eq_true (by kernel_rfl)⟩
 ·exact ⟨by kernel_rfl,of_decide_eq_true (by kernel_rfl)⟩
theorem wIc:laidOutB Try.prog=true:=by kernel_rfl
theorem wId:mapsRowed Try.prog=true:=by kernel_rfl
theorem wIe:(Try.prog.stops == [])=true:=by kernel_rfl
theorem wIf:(Try.prog.stopKnobs == [])=true:=by kernel_rfl
theorem wIg:(Rows.chipRefutedRow.inPlace == Try.prog.inPlace 5)=true:=by kernel_rfl
theorem wIh:(Rows.chipRefutedRow.unfollowed == Try.prog.unfollowed 5)=true:=by kernel_rfl
theorem wIi:(Rows.chipRefutedRow.recurses == Try.prog.recurses 5)=true:=by kernel_rfl
theorem wIj:(Rows.chipRefutedRow.named == Try.prog.varsNamed 5)=true:=by kernel_rfl
theorem wIk:(Rows.chipRefutedRow.plainKeys == Try.prog.plainKeys)=true:=by kernel_rfl
theorem wIl:Try.prog.stopsHeard=true:=by kernel_rfl
theorem wIG:Try.prog.mayEnter=true:=by kernel_rfl
theorem wIH:(Rows.chipRefutedRow.lifted == Try.prog.liftsFinal)=true:=by kernel_rfl
theorem wII:wFq Try.prog Try.f5 Rows.chipRefutedSpec Rows.chipRefutedRow=true:=by kernel_rfl
theorem wGg:joinedFacts Try.prog 5 Try.f5 Rows.chipRefutedSpec Rows.chipRefutedRow=true:=wJw wIc wId wIe wIf wIg wIh wIi wIj wIk wIl wIG wIH wII
theorem chip_refuted:Rows.ChipRefutedSaid :=
 OpenClaim.holds_of_wide 5 Try.f5 rfl rfl rfl rfl rfl rfl rfl ⟨rfl,rfl,rfl,rfl,rfl⟩ rfl rfl rfl rfl rfl (by kernel_rfl) Try.func5 wGg
  (of_decide_eq_true (by kernel_rfl)) (by unfold Func.isWrapper;rw [if_neg (by decide +kernel)];exact ⟨rfl,rfl⟩)
  (fun os started H enc _=>wGf os started H enc)
#print axioms chip_refuted
end Go.Proofs.Ytlnfbjphfoipaaa
