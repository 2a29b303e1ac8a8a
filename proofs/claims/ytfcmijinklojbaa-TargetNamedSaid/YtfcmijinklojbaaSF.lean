import Derived.Test.YtfcmijinklojbaaRows
import Derived.Test.YtfcmijinklojbaaS0
import Derived.Test.YtfcmijinklojbaaS6
import Derived.Test.YtfcmijinklojbaaS2
set_option linter.all false
namespace Go.Proofs.Ytfcmijinklojbaa
open Go.KL
open Go.ChangeShapes Go.WideShapes Go.ChangeAt Go.RowKit
theorem wJu:ownKnob Try.prog.godebug=none:=by kernel_rfl
theorem wIo:laidOutB Try.prog=true:=by kernel_rfl
theorem wIA {H:Type} {enc:TypeId × Value->H} {W:World} {n:Nat} {cs:List Value} {y:DataW H × List MemPlace} (h:DataW.trod enc Try.prog W 0 (fun _=>true) true n 5 cs=some y):∃ x,cs=KL.encB8 x/\True:=by
 obtain ⟨x,e,_,_⟩:=DataW.trod_int Try.underlying5 h
 exact ⟨x,e,trivial⟩
theorem wEu:Try.prog.cellsOf 5=1:=by kernel_rfl
set_option maxRecDepth 100000 in
theorem wHR (os:Os) (started:os.Started) (H:Type) (enc:TypeId × Value->H) :
  ReturnsInHanded {} Try.checked os 3 .any (Rows.targetNamedSpec.pre6 enc Try.prog Try.f3 Rows.targetNamedRow.domain false) (Rows.targetNamedSpec.post enc Try.prog Try.f3 false true false false):=by
 refine returnsInHanded_of_change (C:=Try.checked) wJu started (by kernel_rfl) Try.func3
  (ChangeSpec.witness6 (enc:=enc) (C:=Try.checked) false ⟨#[],#[.slice none 0 0,.slice none 0 0],[]⟩ 8 (by kernel_rfl) (by kernel_rfl) (by kernel_rfl) (by kernel_rfl)) ?_
 intro W base args ds gs before hval0 hW hcnd _
 have hval:∀ (j:Nat) t v,Try.f3.params[j]?=some t->args[j]?=some v->Value.okWide Try.prog W .any base t v:=hval0
 have hW':=hW
 obtain ⟨p,q,hA0,hV,rfl,hfz,hnd⟩:=hW
 have hA:DataW.TrodAll enc Try.prog W 0 (fun _=>true) true Try.f3.params.toList args.toList ds p:=hA0
 rw [Try.params3] at hA hval
 obtain ⟨v0,v1,d0,d1,p0,p1,rfl,rfl,rfl,h0,h1⟩:=trodAll_two hA
 obtain ⟨rfl,rfl⟩:=trodVars_none hV
 obtain ⟨A0,k0,xs0,rfl,hS0,_⟩:=wHe (f:=KL.encB8) (sz:=1) (by decide) (fun _=>rfl) Try.underlying22 wEu (fun _=>True) (fun _ _ _=>wIA) h0 (okWide_slice Try.underlying22 (hval 0 22 v0 rfl rfl))
 obtain ⟨A1,k1,xs1,rfl,hS1,_⟩:=wHe (f:=KL.encB8) (sz:=1) (by decide) (fun _=>rfl) Try.underlying22 wEu (fun _=>True) (fun _ _ _=>wIA) h1 (okWide_slice Try.underlying22 (hval 1 22 v1 rfl rfl))
 have hg:=wCs xs0 A0 k0 xs1 A1 k1 W _ (St.start W) hS0 hS1 (wLz xs0 xs1)
 refine Calls.mono' hg fun e W' ⟨v,he,U',L',hst,hv,_⟩=>?_
 subst he;subst hv
 refine ⟨_,rfl,wKJ (P:=Try.prog) hW' rfl wIo ?_ (t:=4) (by kernel_rfl) Try.underlying4 true rfl rfl rfl hst.kp0⟩
 rw [Try.params3]
 intro t ht
 simp only [List.mem_cons,List.not_mem_nil,or_false] at ht
 rcases ht with rfl | rfl
 ·exact ⟨by kernel_rfl,of_decide_eq_true (by kernel_rfl)⟩
 ·exact ⟨by kernel_rfl,of_decide_eq_true (by kernel_rfl)⟩
theorem wMA:laidOutB Try.prog=true:=by kernel_rfl
theorem wMB:mapsRowed Try.prog=true:=by kernel_rfl
theorem wMC:(Try.prog.stops == [])=true:=by kernel_rfl
theorem wMD:(Try.prog.stopKnobs == [])=true:=by kernel_rfl
theorem wME:(Rows.targetNamedRow.inPlace == Try.prog.inPlace 3)=true:=by kernel_rfl
theorem wMF:(Rows.targetNamedRow.unfollowed == Try.prog.unfollowed 3)=true:=by kernel_rfl
theorem wMG:(Rows.targetNamedRow.recurses == Try.prog.recurses 3)=true:=by kernel_rfl
theorem wMH:(Rows.targetNamedRow.named == Try.prog.varsNamed 3)=true:=by kernel_rfl
theorem wMI:(Rows.targetNamedRow.plainKeys == Try.prog.plainKeys)=true:=by kernel_rfl
theorem wMJ:Try.prog.stopsHeard=true:=by kernel_rfl
theorem wJv:Try.prog.mayEnter=true:=by kernel_rfl
theorem wJw:(Rows.targetNamedRow.lifted == Try.prog.liftsFinal)=true:=by kernel_rfl
theorem wJx:wEy Try.prog Try.f3 Rows.targetNamedSpec Rows.targetNamedRow=true:=by kernel_rfl
theorem wHS:joinedFacts Try.prog 3 Try.f3 Rows.targetNamedSpec Rows.targetNamedRow=true:=wKL wMA wMB wMC wMD wME wMF wMG wMH wMI wMJ wJv wJw wJx
theorem target_named:Rows.TargetNamedSaid :=
 OpenClaim.holds_of_wide 3 Try.f3 rfl rfl rfl rfl rfl rfl rfl ⟨rfl,rfl,rfl,rfl,rfl⟩ rfl rfl rfl rfl rfl (by kernel_rfl) Try.func3 wHS
  (of_decide_eq_true (by kernel_rfl)) (by unfold Func.isWrapper;rw [if_neg (by decide +kernel)];exact ⟨rfl,rfl⟩)
  (fun os started H enc _=>wHR os started H enc)
#print axioms target_named
end Go.Proofs.Ytfcmijinklojbaa
