import Derived.Test.YtfcmijinklojbaaRows
import Derived.Test.YtfcmijinklojbaaT0
import Derived.Test.YtfcmijinklojbaaT6
import Derived.Test.YtfcmijinklojbaaT2
set_option linter.all false
namespace Go.Proofs.Ytfcmijinklojbaa
open Go.KL
open Go.ChangeShapes Go.WideShapes Go.ChangeAt Go.RowKit
theorem wKj:ownKnob Try.prog.godebug=none:=by kernel_rfl
theorem wJZ:laidOutB Try.prog=true:=by kernel_rfl
theorem wIi {H:Type} {enc:TypeId × Value->H} {W:World} {n:Nat} {cs:List Value} {y:DataW H × List MemPlace} (h:DataW.trod enc Try.prog W 0 (fun _=>true) true n 5 cs=some y):∃ x,cs=KL.encB8 x/\True:=by
 obtain ⟨x,e,_,_⟩:=DataW.trod_int Try.underlying5 h
 exact ⟨x,e,trivial⟩
theorem wFT:Try.prog.cellsOf 5=1:=by kernel_rfl
set_option maxRecDepth 100000 in
theorem wHy (os:Os) (started:os.Started) (H:Type) (enc:TypeId × Value->H) :
  ReturnsInHanded {} Try.checked os 5 .any (Rows.targetShownSpec.pre6 enc Try.prog Try.f5 Rows.targetShownRow.domain false) (Rows.targetShownSpec.post enc Try.prog Try.f5 false true false false):=by
 refine returnsInHanded_of_change (C:=Try.checked) wKj started (by kernel_rfl) Try.func5
  (ChangeSpec.witness6 (enc:=enc) (C:=Try.checked) false ⟨#[],#[.slice none 0 0,.slice none 0 0,.int .u8 0,.int .u8 0],[]⟩ 8 (by kernel_rfl) (by kernel_rfl) (by kernel_rfl) (by kernel_rfl)) ?_
 intro W base args ds gs before hval0 hW hcnd _
 have hval:∀ (j:Nat) t v,Try.f5.params[j]?=some t->args[j]?=some v->Value.okWide Try.prog W .any base t v:=hval0
 have hW':=hW
 obtain ⟨p,q,hA0,hV,rfl,hfz,hnd⟩:=hW
 have hA:DataW.TrodAll enc Try.prog W 0 (fun _=>true) true Try.f5.params.toList args.toList ds p:=hA0
 rw [Try.params5] at hA hval
 obtain ⟨v0,v1,v2,v3,d0,d1,d2,d3,p0,p1,p2,p3,rfl,rfl,rfl,h0,h1,h2,h3⟩:=trodAll_four hA
 obtain ⟨rfl,rfl⟩:=trodVars_none hV
 obtain ⟨A0,k0,xs0,rfl,hS0,_⟩:=wIK (f:=KL.encB8) (sz:=1) (by decide) (fun _=>rfl) Try.underlying22 wFT (fun _=>True) (fun _ _ _=>wIi) h0 (okWide_slice Try.underlying22 (hval 0 22 v0 rfl rfl))
 obtain ⟨A1,k1,xs1,rfl,hS1,_⟩:=wIK (f:=KL.encB8) (sz:=1) (by decide) (fun _=>rfl) Try.underlying22 wFT (fun _=>True) (fun _ _ _=>wIi) h1 (okWide_slice Try.underlying22 (hval 1 22 v1 rfl rfl))
 obtain ⟨a2,rfl,rfl,rfl,wa2⟩:=open_int Try.underlying5 (hval 2 5 v2 rfl rfl) h2
 have hb2:0 <= a2/\a2 <= 255:=by simpa [Lit.wf,IntKind.min,IntKind.max,IntKind.signed,IntKind.bits] using wa2
 obtain ⟨a3,rfl,rfl,rfl,wa3⟩:=open_int Try.underlying5 (hval 3 5 v3 rfl rfl) h3
 have hb3:0 <= a3/\a3 <= 255:=by simpa [Lit.wf,IntKind.min,IntKind.max,IntKind.signed,IntKind.bits] using wa3
 have hg:=wDJ xs0 A0 k0 xs1 A1 k1 a2 a3 W _ (St.start W) hS0 hS1 (wMv xs0 xs1 a2 a3 hb2.1 hb2.2 hb3.1 hb3.2)
 refine Calls.mono' hg fun e W' ⟨v,he,U',L',hst,hv,_⟩=>?_
 subst he;subst hv
 refine ⟨_,rfl,wKy (P:=Try.prog) hW' rfl wJZ ?_ (t:=4) (by kernel_rfl) Try.underlying4 true rfl rfl rfl hst.kp0⟩
 rw [Try.params5]
 intro t ht
 simp only [List.mem_cons,List.not_mem_nil,or_false] at ht
 rcases ht with rfl | rfl | rfl | rfl
 ·exact ⟨by kernel_rfl,of_decide_eq_true (by kernel_rfl)⟩
 ·exact ⟨by kernel_rfl,of_decide_eq_true (by kernel_rfl)⟩
 ·exact ⟨by kernel_rfl,of_decide_eq_true (by kernel_rfl)⟩
 ·exact ⟨by kernel_rfl,of_decide_eq_true (by kernel_rfl)⟩
theorem wMw:laidOutB Try.prog=true:=by kernel_rfl
theorem wMx:mapsRowed Try.prog=true:=by kernel_rfl
theorem wMy:(Try.prog.stops == [])=true:=by kernel_rfl
theorem wMz:(Try.prog.stopKnobs == [])=true:=by kernel_rfl
theorem wNA:(Rows.targetShownRow.inPlace == Try.prog.inPlace 5)=true:=by kernel_rfl
theorem wNB:(Rows.targetShownRow.unfollowed == Try.prog.unfollowed 5)=true:=by kernel_rfl
theorem wNC:(Rows.targetShownRow.recurses == Try.prog.recurses 5)=true:=by kernel_rfl
theorem wND:(Rows.targetShownRow.named == Try.prog.varsNamed 5)=true:=by kernel_rfl
theorem wNE:(Rows.targetShownRow.plainKeys == Try.prog.plainKeys)=true:=by kernel_rfl
theorem wNF:Try.prog.stopsHeard=true:=by kernel_rfl
theorem wKk:Try.prog.mayEnter=true:=by kernel_rfl
theorem wKl:(Rows.targetShownRow.lifted == Try.prog.liftsFinal)=true:=by kernel_rfl
theorem wKm:wFY Try.prog Try.f5 Rows.targetShownSpec Rows.targetShownRow=true:=by kernel_rfl
theorem wHz:joinedFacts Try.prog 5 Try.f5 Rows.targetShownSpec Rows.targetShownRow=true:=wLA wMw wMx wMy wMz wNA wNB wNC wND wNE wNF wKk wKl wKm
theorem target_shown:Rows.TargetShownSaid :=
 OpenClaim.holds_of_wide 5 Try.f5 rfl rfl rfl rfl rfl rfl rfl ⟨rfl,rfl,rfl,rfl,rfl⟩ rfl rfl rfl rfl rfl (by kernel_rfl) Try.func5 wHz
  (of_decide_eq_true (by kernel_rfl)) (by unfold Func.isWrapper;rw [if_neg (by decide +kernel)];exact ⟨rfl,rfl⟩)
  (fun os started H enc _=>wHy os started H enc)
#print axioms target_shown
end Go.Proofs.Ytfcmijinklojbaa
