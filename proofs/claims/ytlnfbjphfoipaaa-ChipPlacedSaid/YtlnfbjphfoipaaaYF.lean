import Derived.Test.YtlnfbjphfoipaaaRows
import Derived.Test.YtlnfbjphfoipaaaY0
import Derived.Test.YtlnfbjphfoipaaaY9
import Derived.Test.YtlnfbjphfoipaaaY3
set_option linter.all false
namespace Go.Proofs.Ytlnfbjphfoipaaa
open Go.KL
open Go.ChangeShapes Go.WideShapes Go.ChangeAt Go.RowKit
theorem wKO:ownKnob Try.prog.godebug=none:=by kernel_rfl
theorem wJP:laidOutB Try.prog=true:=by kernel_rfl
theorem wLi {H:Type} {enc:TypeId × Value->H} {W:World} {n:Nat} {cs:List Value} {y:DataW H × List MemPlace} (h:DataW.trod enc Try.prog W 0 (fun _=>true) true n 5 cs=some y):∃ x,cs=KL.encB8 x/\True:=by
 obtain ⟨x,e,_,_⟩:=DataW.trod_int Try.underlying5 h
 exact ⟨x,e,trivial⟩
theorem wHc:Try.prog.cellsOf 5=1:=by kernel_rfl
set_option maxRecDepth 100000 in
theorem wHd (os:Os) (started:os.Started) (H:Type) (enc:TypeId × Value->H) :
  ReturnsInHanded {} Try.checked os 4 .any (Rows.chipPlacedSpec.pre6 enc Try.prog Try.f4 Rows.chipPlacedRow.domain false) (Rows.chipPlacedSpec.post enc Try.prog Try.f4 false true false false):=by
 refine returnsInHanded_of_change (C:=Try.checked) wKO started (by kernel_rfl) Try.func4
  (ChangeSpec.witness6 (enc:=enc) (C:=Try.checked) false ⟨#[],#[.slice none 0 0,.int .i64 0],[]⟩ 8 (by kernel_rfl) (by kernel_rfl) (by kernel_rfl) (by kernel_rfl)) ?_
 intro W base args ds gs before hval0 hW hcnd _
 have hval:∀ (j:Nat) t v,Try.f4.params[j]?=some t->args[j]?=some v->Value.okWide Try.prog W .any base t v:=hval0
 have hW':=hW
 obtain ⟨p,q,hA0,hV,rfl,hfz,hnd⟩:=hW
 have hA:DataW.TrodAll enc Try.prog W 0 (fun _=>true) true Try.f4.params.toList args.toList ds p:=hA0
 rw [Try.params4] at hA hval
 obtain ⟨v0,v1,d0,d1,p0,p1,rfl,rfl,rfl,h0,h1⟩:=trodAll_two hA
 obtain ⟨rfl,rfl⟩:=trodVars_none hV
 obtain ⟨A0,k0,xs0,rfl,hS0,_⟩:=wMJ (f:=KL.encB8) (sz:=1) (by decide) (fun _=>rfl) Try.underlying22 wHc (fun _=>True) (fun _ _ _=>wLi) h0 (okWide_slice Try.underlying22 (hval 0 22 v0 rfl rfl))
 obtain ⟨a1,rfl,rfl,rfl,wa1⟩:=open_int Try.underlying3 (hval 1 3 v1 rfl rfl) h1
 have hb1:-9223372036854775808 <= a1/\a1 <= 9223372036854775807:=by simpa [Lit.wf,IntKind.min,IntKind.max,IntKind.signed,IntKind.bits] using wa1
 have hg:=wDk xs0 A0 k0 a1 W _ (St.start W) hS0 (wLh xs0 a1 hb1.1 hb1.2)
 refine Calls.mono' hg fun e W' ⟨v,he,U',L',hst,hv,_⟩=>?_
 subst he;subst hv
 refine ⟨_,rfl,wMH (P:=Try.prog) hW' rfl wJP ?_ (t:=4) (by kernel_rfl) Try.underlying4 true rfl rfl rfl hst.kp0⟩
 rw [Try.params4]
 intro t ht
 simp only [List.mem_cons,List.not_mem_nil,or_false] at ht
 rcases ht with rfl | rfl
 ·exact ⟨by kernel_rfl,of_decide_eq_true (by kernel_rfl)⟩
 ·exact ⟨by kernel_rfl,of_decide_eq_true (by kernel_rfl)⟩
theorem wLj:laidOutB Try.prog=true:=by kernel_rfl
theorem wLk:mapsRowed Try.prog=true:=by kernel_rfl
theorem wLl:(Try.prog.stops == [])=true:=by kernel_rfl
theorem wLm:(Try.prog.stopKnobs == [])=true:=by kernel_rfl
theorem wLn:(Rows.chipPlacedRow.inPlace == Try.prog.inPlace 4)=true:=by kernel_rfl
theorem wLo:(Rows.chipPlacedRow.unfollowed == Try.prog.unfollowed 4)=true:=by kernel_rfl
theorem wLp:(Rows.chipPlacedRow.recurses == Try.prog.recurses 4)=true:=by kernel_rfl
theorem wLq:(Rows.chipPlacedRow.named == Try.prog.varsNamed 4)=true:=by kernel_rfl
theorem wLr:(Rows.chipPlacedRow.plainKeys == Try.prog.plainKeys)=true:=by kernel_rfl
theorem wLs:Try.prog.stopsHeard=true:=by kernel_rfl
theorem wKP:Try.prog.mayEnter=true:=by kernel_rfl
theorem wKQ:(Rows.chipPlacedRow.lifted == Try.prog.liftsFinal)=true:=by kernel_rfl
theorem wKR:wFi Try.prog Try.f4 Rows.chipPlacedSpec Rows.chipPlacedRow=true:=by kernel_rfl
theorem wHe:joinedFacts Try.prog 4 Try.f4 Rows.chipPlacedSpec Rows.chipPlacedRow=true:=wMK wLj wLk wLl wLm wLn wLo wLp wLq wLr wLs wKP wKQ wKR
theorem chip_placed:Rows.ChipPlacedSaid :=
 OpenClaim.holds_of_wide 4 Try.f4 rfl rfl rfl rfl rfl rfl rfl ⟨rfl,rfl,rfl,rfl,rfl⟩ rfl rfl rfl rfl rfl (by kernel_rfl) Try.func4 wHe
  (of_decide_eq_true (by kernel_rfl)) (by unfold Func.isWrapper;rw [if_neg (by decide +kernel)];exact ⟨rfl,rfl⟩)
  (fun os started H enc _=>wHd os started H enc)
#print axioms chip_placed
end Go.Proofs.Ytlnfbjphfoipaaa
