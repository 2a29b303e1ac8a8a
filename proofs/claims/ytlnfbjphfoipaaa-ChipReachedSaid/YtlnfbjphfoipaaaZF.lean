import Derived.Test.YtlnfbjphfoipaaaRows
import Derived.Test.YtlnfbjphfoipaaaZ0
import Derived.Test.YtlnfbjphfoipaaaZ8
import Derived.Test.YtlnfbjphfoipaaaZ1
set_option linter.all false
namespace Go.Proofs.Ytlnfbjphfoipaaa
open Go.KL
open Go.ChangeShapes Go.WideShapes Go.ChangeAt Go.RowKit
theorem wIO:ownKnob Try.prog.godebug=none:=by kernel_rfl
theorem wHm:laidOutB Try.prog=true:=by kernel_rfl
theorem wGf {H:Type} {enc:TypeId × Value->H} {W:World} {n:Nat} {cs:List Value} {y:DataW H × List MemPlace} (h:DataW.trod enc Try.prog W 0 (fun _=>true) true n 5 cs=some y):∃ x,cs=KL.encB8 x/\True:=by
 obtain ⟨x,e,_,_⟩:=DataW.trod_int Try.underlying5 h
 exact ⟨x,e,trivial⟩
theorem wFD:Try.prog.cellsOf 5=1:=by kernel_rfl
set_option maxRecDepth 100000 in
theorem wGg (os:Os) (started:os.Started) (H:Type) (enc:TypeId × Value->H) :
  ReturnsInHanded {} Try.checked os 7 .any (Rows.chipReachedSpec.pre6 enc Try.prog Try.f7 Rows.chipReachedRow.domain false) (Rows.chipReachedSpec.post enc Try.prog Try.f7 false true false false):=by
 refine returnsInHanded_of_change (C:=Try.checked) wIO started (by kernel_rfl) Try.func7
  (ChangeSpec.witness6 (enc:=enc) (C:=Try.checked) false ⟨#[],#[.slice none 0 0,.slice none 0 0],[]⟩ 8 (by kernel_rfl) (by kernel_rfl) (by kernel_rfl) (by kernel_rfl)) ?_
 intro W base args ds gs before hval0 hW hcnd _
 have hval:∀ (j:Nat) t v,Try.f7.params[j]?=some t->args[j]?=some v->Value.okWide Try.prog W .any base t v:=hval0
 have hW':=hW
 obtain ⟨p,q,hA0,hV,rfl,hfz,hnd⟩:=hW
 have hA:DataW.TrodAll enc Try.prog W 0 (fun _=>true) true Try.f7.params.toList args.toList ds p:=hA0
 rw [Try.params7] at hA hval
 obtain ⟨v0,v1,d0,d1,p0,p1,rfl,rfl,rfl,h0,h1⟩:=trodAll_two hA
 obtain ⟨rfl,rfl⟩:=trodVars_none hV
 obtain ⟨A0,k0,xs0,rfl,hS0,_⟩:=wHy (f:=KL.encB8) (sz:=1) (by decide) (fun _=>rfl) Try.underlying22 wFD (fun _=>True) (fun _ _ _=>wGf) h0 (okWide_slice Try.underlying22 (hval 0 22 v0 rfl rfl))
 obtain ⟨A1,k1,xs1,rfl,hS1,_⟩:=wHy (f:=KL.encB8) (sz:=1) (by decide) (fun _=>rfl) Try.underlying22 wFD (fun _=>True) (fun _ _ _=>wGf) h1 (okWide_slice Try.underlying22 (hval 1 22 v1 rfl rfl))
 have hg:=wEN xs0 A0 k0 xs1 A1 k1 W _ (St.start W) hS0 hS1 (wIp xs0 xs1)
 refine Calls.mono' hg fun e W' ⟨v,he,U',L',hst,hv,_⟩=>?_
 subst he;subst hv
 refine ⟨_,rfl,wJx (P:=Try.prog) hW' rfl wHm ?_ (t:=4) (by kernel_rfl) Try.underlying4 true rfl rfl rfl hst.kp0⟩
 rw [Try.params7]
 intro t ht
 simp only [List.mem_cons,List.not_mem_nil,or_false] at ht
 rcases ht with rfl | rfl
 ·exact ⟨by kernel_rfl,of_decide_eq_true (by kernel_rfl)⟩
 ·exact ⟨by kernel_rfl,of_decide_eq_true (by kernel_rfl)⟩
theorem wIq:laidOutB Try.prog=true:=by kernel_rfl
theorem wIr:mapsRowed Try.prog=true:=by kernel_rfl
theorem wIs:(Try.prog.stops == [])=true:=by kernel_rfl
theorem wIt:(Try.prog.stopKnobs == [])=true:=by kernel_rfl
theorem wIu:(Rows.chipReachedRow.inPlace == Try.prog.inPlace 7)=true:=by kernel_rfl
theorem wIv:(Rows.chipReachedRow.unfollowed == Try.prog.unfollowed 7)=true:=by kernel_rfl
theorem wIw:(Rows.chipReachedRow.recurses == Try.prog.recurses 7)=true:=by kernel_rfl
theorem wIx:(Rows.chipReachedRow.named == Try.prog.varsNamed 7)=true:=by kernel_rfl
theorem wIy:(Rows.chipReachedRow.plainKeys == Try.prog.plainKeys)=true:=by kernel_rfl
theorem wIz:Try.prog.stopsHeard=true:=by kernel_rfl
theorem wIP:Try.prog.mayEnter=true:=by kernel_rfl
theorem wIQ:(Rows.chipReachedRow.lifted == Try.prog.liftsFinal)=true:=by kernel_rfl
theorem wIR:wFz Try.prog Try.f7 Rows.chipReachedSpec Rows.chipReachedRow=true:=by kernel_rfl
theorem wGh:joinedFacts Try.prog 7 Try.f7 Rows.chipReachedSpec Rows.chipReachedRow=true:=wJz wIq wIr wIs wIt wIu wIv wIw wIx wIy wIz wIP wIQ wIR
theorem chip_reached:Rows.ChipReachedSaid :=
 OpenClaim.holds_of_wide 7 Try.f7 rfl rfl rfl rfl rfl rfl rfl ⟨rfl,rfl,rfl,rfl,rfl⟩ rfl rfl rfl rfl rfl (by kernel_rfl) Try.func7 wGh
  (of_decide_eq_true (by kernel_rfl)) (by unfold Func.isWrapper;rw [if_neg (by decide +kernel)];exact ⟨rfl,rfl⟩)
  (fun os started H enc _=>wGg os started H enc)
#print axioms chip_reached
end Go.Proofs.Ytlnfbjphfoipaaa
