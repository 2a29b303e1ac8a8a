import Derived.Test.YtlnfbjphfoipaaaRows
import Derived.Test.YtlnfbjphfoipaaaQ0
import Derived.Test.YtlnfbjphfoipaaaQ10
import Derived.Test.YtlnfbjphfoipaaaQ3
set_option linter.all false
namespace Go.Proofs.Ytlnfbjphfoipaaa
open Go.KL
open Go.ChangeShapes Go.WideShapes Go.ChangeAt Go.RowKit
theorem wJt:ownKnob Try.prog.godebug=none:=by kernel_rfl
theorem wJG:laidOutB Try.prog=true:=by kernel_rfl
theorem wIp {H:Type} {enc:TypeId × Value->H} {W:World} {n:Nat} {cs:List Value} {y:DataW H × List MemPlace} (h:DataW.trod enc Try.prog W 0 (fun _=>true) true n 5 cs=some y):∃ x,cs=KL.encB8 x/\True:=by
 obtain ⟨x,e,_,_⟩:=DataW.trod_int Try.underlying5 h
 exact ⟨x,e,trivial⟩
theorem wFf:Try.prog.cellsOf 5=1:=by kernel_rfl
set_option maxRecDepth 100000 in
theorem wHo (os:Os) (started:os.Started) (H:Type) (enc:TypeId × Value->H) :
  ReturnsInHanded {} Try.checked os 6 .any (Rows.chipMoreSpec.pre6 enc Try.prog Try.f6 Rows.chipMoreRow.domain false) (Rows.chipMoreSpec.post enc Try.prog Try.f6 false true false false):=by
 refine returnsInHanded_of_change (C:=Try.checked) wJt started (by kernel_rfl) Try.func6
  (ChangeSpec.witness6 (enc:=enc) (C:=Try.checked) false ⟨#[],#[.slice none 0 0,.slice none 0 0],[]⟩ 8 (by kernel_rfl) (by kernel_rfl) (by kernel_rfl) (by kernel_rfl)) ?_
 intro W base args ds gs before hval0 hW hcnd _
 have hval:∀ (j:Nat) t v,Try.f6.params[j]?=some t->args[j]?=some v->Value.okWide Try.prog W .any base t v:=hval0
 have hW':=hW
 obtain ⟨p,q,hA0,hV,rfl,hfz,hnd⟩:=hW
 have hA:DataW.TrodAll enc Try.prog W 0 (fun _=>true) true Try.f6.params.toList args.toList ds p:=hA0
 rw [Try.params6] at hA hval
 obtain ⟨v0,v1,d0,d1,p0,p1,rfl,rfl,rfl,h0,h1⟩:=trodAll_two hA
 obtain ⟨rfl,rfl⟩:=trodVars_none hV
 obtain ⟨A0,k0,xs0,rfl,hS0,_⟩:=wHU (f:=KL.encB8) (sz:=1) (by decide) (fun _=>rfl) Try.underlying22 wFf (fun _=>True) (fun _ _ _=>wIp) h0 (okWide_slice Try.underlying22 (hval 0 22 v0 rfl rfl))
 obtain ⟨A1,k1,xs1,rfl,hS1,_⟩:=wHU (f:=KL.encB8) (sz:=1) (by decide) (fun _=>rfl) Try.underlying22 wFf (fun _=>True) (fun _ _ _=>wIp) h1 (okWide_slice Try.underlying22 (hval 1 22 v1 rfl rfl))
 have hg:=wEM xs0 A0 k0 xs1 A1 k1 W _ (St.start W) hS0 hS1 (wKV xs0 xs1)
 refine Calls.mono' hg fun e W' ⟨v,he,U',L',hst,hv,_⟩=>?_
 subst he;subst hv
 refine ⟨_,rfl,wJV (P:=Try.prog) hW' rfl wJG ?_ (t:=4) (by kernel_rfl) Try.underlying4 true rfl rfl rfl hst.kp0⟩
 rw [Try.params6]
 intro t ht
 simp only [List.mem_cons,List.not_mem_nil,or_false] at ht
 rcases ht with rfl | rfl
 ·exact ⟨by kernel_rfl,of_decide_eq_true (by kernel_rfl)⟩
 ·exact ⟨by kernel_rfl,of_decide_eq_true (by kernel_rfl)⟩
theorem wKW:laidOutB Try.prog=true:=by kernel_rfl
theorem wKX:mapsRowed Try.prog=true:=by kernel_rfl
theorem wKY:(Try.prog.stops == [])=true:=by kernel_rfl
theorem wKZ:(Try.prog.stopKnobs == [])=true:=by kernel_rfl
theorem wKa:(Rows.chipMoreRow.inPlace == Try.prog.inPlace 6)=true:=by kernel_rfl
theorem wKb:(Rows.chipMoreRow.unfollowed == Try.prog.unfollowed 6)=true:=by kernel_rfl
theorem wKc:(Rows.chipMoreRow.recurses == Try.prog.recurses 6)=true:=by kernel_rfl
theorem wKd:(Rows.chipMoreRow.named == Try.prog.varsNamed 6)=true:=by kernel_rfl
theorem wKe:(Rows.chipMoreRow.plainKeys == Try.prog.plainKeys)=true:=by kernel_rfl
theorem wKf:Try.prog.stopsHeard=true:=by kernel_rfl
theorem wJu:Try.prog.mayEnter=true:=by kernel_rfl
theorem wJv:(Rows.chipMoreRow.lifted == Try.prog.liftsFinal)=true:=by kernel_rfl
theorem wJw:wFW Try.prog Try.f6 Rows.chipMoreSpec Rows.chipMoreRow=true:=by kernel_rfl
theorem wHp:joinedFacts Try.prog 6 Try.f6 Rows.chipMoreSpec Rows.chipMoreRow=true:=wJX wKW wKX wKY wKZ wKa wKb wKc wKd wKe wKf wJu wJv wJw
theorem chip_more:Rows.ChipMoreSaid :=
 OpenClaim.holds_of_wide 6 Try.f6 rfl rfl rfl rfl rfl rfl rfl ⟨rfl,rfl,rfl,rfl,rfl⟩ rfl rfl rfl rfl rfl (by kernel_rfl) Try.func6 wHp
  (of_decide_eq_true (by kernel_rfl)) (by unfold Func.isWrapper;rw [if_neg (by decide +kernel)];exact ⟨rfl,rfl⟩)
  (fun os started H enc _=>wHo os started H enc)
#print axioms chip_more
end Go.Proofs.Ytlnfbjphfoipaaa
