import Derived.Test.YtfcmijinklojbaaRows
import Derived.Test.YtfcmijinklojbaaR0
import Derived.Test.YtfcmijinklojbaaR6
import Derived.Test.YtfcmijinklojbaaR2
set_option linter.all false
namespace Go.Proofs.Ytfcmijinklojbaa
open Go.KL
open Go.ChangeShapes Go.WideShapes Go.ChangeAt Go.RowKit
theorem wMd:ownKnob Try.prog.godebug=none:=by kernel_rfl
theorem wKV:laidOutB Try.prog=true:=by kernel_rfl
theorem wNS {H:Type} {enc:TypeId × Value->H} {W:World} {n:Nat} {cs:List Value} {y:DataW H × List MemPlace} (h:DataW.trod enc Try.prog W 0 (fun _=>true) true n 5 cs=some y):∃ x,cs=KL.encB8 x/\True:=by
 obtain ⟨x,e,_,_⟩:=DataW.trod_int Try.underlying5 h
 exact ⟨x,e,trivial⟩
theorem wIT:Try.prog.cellsOf 5=1:=by kernel_rfl
set_option maxRecDepth 100000 in
theorem wIU (os:Os) (started:os.Started) (H:Type) (enc:TypeId × Value->H) :
  ReturnsInHanded {} Try.checked os 6 .any (Rows.targetLaidSpec.pre6 enc Try.prog Try.f6 Rows.targetLaidRow.domain false) (Rows.targetLaidSpec.post enc Try.prog Try.f6 false true false false):=by
 refine returnsInHanded_of_change (C:=Try.checked) wMd started (by kernel_rfl) Try.func6
  (ChangeSpec.witness6 (enc:=enc) (C:=Try.checked) false ⟨#[],#[.slice none 0 0],[]⟩ 8 (by kernel_rfl) (by kernel_rfl) (by kernel_rfl) (by kernel_rfl)) ?_
 intro W base args ds gs before hval0 hW hcnd _
 have hval:∀ (j:Nat) t v,Try.f6.params[j]?=some t->args[j]?=some v->Value.okWide Try.prog W .any base t v:=hval0
 have hW':=hW
 obtain ⟨p,q,hA0,hV,rfl,hfz,hnd⟩:=hW
 have hA:DataW.TrodAll enc Try.prog W 0 (fun _=>true) true Try.f6.params.toList args.toList ds p:=hA0
 rw [Try.params6] at hA hval
 obtain ⟨v0,d0,rfl,rfl,h0⟩:=trodAll_one hA
 obtain ⟨rfl,rfl⟩:=trodVars_none hV
 obtain ⟨A0,k0,xs0,rfl,hS0,_⟩:=wKi (f:=KL.encB8) (sz:=1) (by decide) (fun _=>rfl) Try.underlying22 wIT (fun _=>True) (fun _ _ _=>wNS) h0 (okWide_slice Try.underlying22 (hval 0 22 v0 rfl rfl))
 have hg:=wDT xs0 A0 k0 W _ (St.start W) hS0 (wNR xs0)
 refine Calls.mono' hg fun e W' ⟨v,he,U',L',hst,hv,_⟩=>?_
 subst he;subst hv
 refine ⟨_,rfl,wKg (P:=Try.prog) hW' rfl wKV ?_ (t:=4) (by kernel_rfl) Try.underlying4 true rfl rfl rfl hst.kp0⟩
 rw [Try.params6]
 intro t ht
 simp only [List.mem_cons,List.not_mem_nil,or_false] at ht
 subst ht
 ·exact ⟨by kernel_rfl,of_decide_eq_true (by kernel_rfl)⟩
theorem wNT:laidOutB Try.prog=true:=by kernel_rfl
theorem wNU:mapsRowed Try.prog=true:=by kernel_rfl
theorem wNV:(Try.prog.stops == [])=true:=by kernel_rfl
theorem wNW:(Try.prog.stopKnobs == [])=true:=by kernel_rfl
theorem wNX:(Rows.targetLaidRow.inPlace == Try.prog.inPlace 6)=true:=by kernel_rfl
theorem wNY:(Rows.targetLaidRow.unfollowed == Try.prog.unfollowed 6)=true:=by kernel_rfl
theorem wNZ:(Rows.targetLaidRow.recurses == Try.prog.recurses 6)=true:=by kernel_rfl
theorem wNa:(Rows.targetLaidRow.named == Try.prog.varsNamed 6)=true:=by kernel_rfl
theorem wNb:(Rows.targetLaidRow.plainKeys == Try.prog.plainKeys)=true:=by kernel_rfl
theorem wNc:Try.prog.stopsHeard=true:=by kernel_rfl
theorem wMe:Try.prog.mayEnter=true:=by kernel_rfl
theorem wMf:(Rows.targetLaidRow.lifted == Try.prog.liftsFinal)=true:=by kernel_rfl
theorem wMg:wFO Try.prog Try.f6 Rows.targetLaidSpec Rows.targetLaidRow=true:=by kernel_rfl
theorem wIV:joinedFacts Try.prog 6 Try.f6 Rows.targetLaidSpec Rows.targetLaidRow=true:=wKj wNT wNU wNV wNW wNX wNY wNZ wNa wNb wNc wMe wMf wMg
theorem target_laid:Rows.TargetLaidSaid :=
 OpenClaim.holds_of_wide 6 Try.f6 rfl rfl rfl rfl rfl rfl rfl ⟨rfl,rfl,rfl,rfl,rfl⟩ rfl rfl rfl rfl rfl (by kernel_rfl) Try.func6 wIV
  (of_decide_eq_true (by kernel_rfl)) (by unfold Func.isWrapper;rw [if_neg (by decide +kernel)];exact ⟨rfl,rfl⟩)
  (fun os started H enc _=>wIU os started H enc)
#print axioms target_laid
end Go.Proofs.Ytfcmijinklojbaa
