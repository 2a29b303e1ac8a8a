import Derived.Test.YtlnfbjphfoipaaaRows
import Derived.Test.YtlnfbjphfoipaaaU0
import Derived.Test.YtlnfbjphfoipaaaU7
import Derived.Test.YtlnfbjphfoipaaaU1
set_option linter.all false
namespace Go.Proofs.Ytlnfbjphfoipaaa
open Go.KL
open Go.ChangeShapes Go.WideShapes Go.ChangeAt Go.RowKit
theorem wIx:ownKnob Try.prog.godebug=none:=by kernel_rfl
theorem wIC:laidOutB Try.prog=true:=by kernel_rfl
theorem wGH {H:Type} {enc:TypeId × Value->H} {W:World} {n:Nat} {cs:List Value} {y:DataW H × List MemPlace} (h:DataW.trod enc Try.prog W 0 (fun _=>true) true n 5 cs=some y):∃ x,cs=KL.encB8 x/\True:=by
 obtain ⟨x,e,_,_⟩:=DataW.trod_int Try.underlying5 h
 exact ⟨x,e,trivial⟩
theorem wEK:Try.prog.cellsOf 5=1:=by kernel_rfl
set_option maxRecDepth 100000 in
theorem wHG (os:Os) (started:os.Started) (H:Type) (enc:TypeId × Value->H) :
  ReturnsInHanded {} Try.checked os 3 .any (Rows.chipNamedSpec.pre6 enc Try.prog Try.f3 Rows.chipNamedRow.domain false) (Rows.chipNamedSpec.post enc Try.prog Try.f3 false true false false):=by
 refine returnsInHanded_of_change (C:=Try.checked) wIx started (by kernel_rfl) Try.func3
  (ChangeSpec.witness6 (enc:=enc) (C:=Try.checked) false ⟨#[],#[.slice none 0 0,.slice none 0 0,.slice none 0 0,.int .i64 0],[]⟩ 8 (by kernel_rfl) (by kernel_rfl) (by kernel_rfl) (by kernel_rfl)) ?_
 intro W base args ds gs before hval0 hW hcnd _
 have hval:∀ (j:Nat) t v,Try.f3.params[j]?=some t->args[j]?=some v->Value.okWide Try.prog W .any base t v:=hval0
 have hW':=hW
 obtain ⟨p,q,hA0,hV,rfl,hfz,hnd⟩:=hW
 have hA:DataW.TrodAll enc Try.prog W 0 (fun _=>true) true Try.f3.params.toList args.toList ds p:=hA0
 rw [Try.params3] at hA hval
 obtain ⟨v0,v1,v2,v3,d0,d1,d2,d3,p0,p1,p2,p3,rfl,rfl,rfl,h0,h1,h2,h3⟩:=trodAll_four hA
 obtain ⟨rfl,rfl⟩:=trodVars_none hV
 obtain ⟨A0,k0,xs0,rfl,hS0,_⟩:=wFy (f:=KL.encB8) (sz:=1) (by decide) (fun _=>rfl) Try.underlying22 wEK (fun _=>True) (fun _ _ _=>wGH) h0 (okWide_slice Try.underlying22 (hval 0 22 v0 rfl rfl))
 obtain ⟨A1,k1,xs1,rfl,hS1,_⟩:=wFy (f:=KL.encB8) (sz:=1) (by decide) (fun _=>rfl) Try.underlying22 wEK (fun _=>True) (fun _ _ _=>wGH) h1 (okWide_slice Try.underlying22 (hval 1 22 v1 rfl rfl))
 obtain ⟨A2,k2,xs2,rfl,hS2,_⟩:=wFy (f:=KL.encB8) (sz:=1) (by decide) (fun _=>rfl) Try.underlying22 wEK (fun _=>True) (fun _ _ _=>wGH) h2 (okWide_slice Try.underlying22 (hval 2 22 v2 rfl rfl))
 obtain ⟨a3,rfl,rfl,rfl,wa3⟩:=open_int Try.underlying3 (hval 3 3 v3 rfl rfl) h3
 have hb3:-9223372036854775808 <= a3/\a3 <= 9223372036854775807:=by simpa [Lit.wf,IntKind.min,IntKind.max,IntKind.signed,IntKind.bits] using wa3
 have hg:=wED xs0 A0 k0 xs1 A1 k1 xs2 A2 k2 a3 W _ (St.start W) hS0 hS1 hS2 (wJo xs0 xs1 xs2 a3 hb3.1 hb3.2)
 refine Calls.mono' hg fun e W' ⟨v,he,U',L',hst,hv,_⟩=>?_
 subst he;subst hv
 refine ⟨_,rfl,wJP (P:=Try.prog) hW' rfl wIC ?_ (t:=4) (by kernel_rfl) Try.underlying4 true rfl rfl rfl hst.kp0⟩
 rw [Try.params3]
 intro t ht
 simp only [List.mem_cons,List.not_mem_nil,or_false] at ht
 rcases ht with rfl | rfl | rfl | rfl
 ·exact ⟨by kernel_rfl,of_decide_eq_true (by kernel_rfl)⟩
 ·exact ⟨by kernel_rfl,of_decide_eq_true (by kernel_rfl)⟩
 ·exact ⟨by kernel_rfl,of_decide_eq_true (by kernel_rfl)⟩
 ·exact ⟨by kernel_rfl,of_decide_eq_true (by kernel_rfl)⟩
theorem wJp:laidOutB Try.prog=true:=by kernel_rfl
theorem wJq:mapsRowed Try.prog=true:=by kernel_rfl
theorem wJr:(Try.prog.stops == [])=true:=by kernel_rfl
theorem wJs:(Try.prog.stopKnobs == [])=true:=by kernel_rfl
theorem wJt:(Rows.chipNamedRow.inPlace == Try.prog.inPlace 3)=true:=by kernel_rfl
theorem wJu:(Rows.chipNamedRow.unfollowed == Try.prog.unfollowed 3)=true:=by kernel_rfl
theorem wJv:(Rows.chipNamedRow.recurses == Try.prog.recurses 3)=true:=by kernel_rfl
theorem wJw:(Rows.chipNamedRow.named == Try.prog.varsNamed 3)=true:=by kernel_rfl
theorem wJx:(Rows.chipNamedRow.plainKeys == Try.prog.plainKeys)=true:=by kernel_rfl
theorem wJy:Try.prog.stopsHeard=true:=by kernel_rfl
theorem wIy:Try.prog.mayEnter=true:=by kernel_rfl
theorem wIz:(Rows.chipNamedRow.lifted == Try.prog.liftsFinal)=true:=by kernel_rfl
theorem wJA:wFY Try.prog Try.f3 Rows.chipNamedSpec Rows.chipNamedRow=true:=by kernel_rfl
theorem wHH:joinedFacts Try.prog 3 Try.f3 Rows.chipNamedSpec Rows.chipNamedRow=true:=wJR wJp wJq wJr wJs wJt wJu wJv wJw wJx wJy wIy wIz wJA
theorem chip_named:Rows.ChipNamedSaid :=
 OpenClaim.holds_of_wide 3 Try.f3 rfl rfl rfl rfl rfl rfl rfl ⟨rfl,rfl,rfl,rfl,rfl⟩ rfl rfl rfl rfl rfl (by kernel_rfl) Try.func3 wHH
  (of_decide_eq_true (by kernel_rfl)) (by unfold Func.isWrapper;rw [if_neg (by decide +kernel)];exact ⟨rfl,rfl⟩)
  (fun os started H enc _=>wHG os started H enc)
#print axioms chip_named
end Go.Proofs.Ytlnfbjphfoipaaa
