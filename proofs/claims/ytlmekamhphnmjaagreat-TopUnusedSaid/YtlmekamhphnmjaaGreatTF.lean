import Derived.Test.YtlmekamhphnmjaaGreatRows
import Derived.Test.YtlmekamhphnmjaaGreatT0
import Derived.Test.YtlmekamhphnmjaaGreatT8
import Derived.Test.YtlmekamhphnmjaaGreatT2
set_option linter.all false
namespace Go.Proofs.YtlmekamhphnmjaaGreat
open Go.KL
open Go.ChangeShapes Go.WideShapes Go.ChangeAt Go.RowKit
theorem wKs:ownKnob Tryz.prog.godebug=none:=by kernel_rfl
theorem wKJ:laidOutB Tryz.prog=true:=by kernel_rfl
theorem wLu {H:Type} {enc:TypeId × Value->H} {W:World} {n:Nat} {cs:List Value} {y:DataW H × List MemPlace} (h:DataW.trod enc Tryz.prog W 0 (fun _=>true) true n 5 cs=some y):∃ x,cs=KL.encB8 x/\True:=by
 obtain ⟨x,e,_,_⟩:=DataW.trod_int Tryz.underlying5 h
 exact ⟨x,e,trivial⟩
theorem wIm:Tryz.prog.cellsOf 5=1:=by kernel_rfl
set_option maxRecDepth 100000 in
theorem wIn (os:Os) (started:os.Started) (H:Type) (enc:TypeId × Value->H) :
  ReturnsInHanded {} Tryz.checked os 5 .any (Rows.topUnusedSpec.pre6 enc Tryz.prog Tryz.f5 Rows.topUnusedRow.domain false) (Rows.topUnusedSpec.post enc Tryz.prog Tryz.f5 false true false false):=by
 refine returnsInHanded_of_change (C:=Tryz.checked) wKs started (by kernel_rfl) Tryz.func5
  (ChangeSpec.witness6 (enc:=enc) (C:=Tryz.checked) false ⟨#[],#[.slice none 0 0,.int .i64 0],[]⟩ 8 (by kernel_rfl) (by kernel_rfl) (by kernel_rfl) (by kernel_rfl)) ?_
 intro W base args ds gs before hval0 hW hcnd _
 have hval:∀ (j:Nat) t v,Tryz.f5.params[j]?=some t->args[j]?=some v->Value.okWide Tryz.prog W .any base t v:=hval0
 have hW':=hW
 obtain ⟨p,q,hA0,hV,rfl,hfz,hnd⟩:=hW
 have hA:DataW.TrodAll enc Tryz.prog W 0 (fun _=>true) true Tryz.f5.params.toList args.toList ds p:=hA0
 rw [Tryz.params5] at hA hval
 obtain ⟨v0,v1,d0,d1,p0,p1,rfl,rfl,rfl,h0,h1⟩:=trodAll_two hA
 obtain ⟨rfl,rfl⟩:=trodVars_none hV
 obtain ⟨A0,k0,xs0,rfl,hS0,_⟩:=wMU (f:=KL.encB8) (sz:=1) (by decide) (fun _=>rfl) Tryz.underlying22 wIm (fun _=>True) (fun _ _ _=>wLu) h0 (okWide_slice Tryz.underlying22 (hval 0 22 v0 rfl rfl))
 obtain ⟨a1,rfl,rfl,rfl,wa1⟩:=open_int Tryz.underlying3 (hval 1 3 v1 rfl rfl) h1
 have hb1:-9223372036854775808 <= a1/\a1 <= 9223372036854775807:=by simpa [Lit.wf,IntKind.min,IntKind.max,IntKind.signed,IntKind.bits] using wa1
 have hg:=wFt xs0 A0 k0 a1 W _ (St.start W) hS0 (wLt xs0 a1 hb1.1 hb1.2)
 refine Calls.mono' hg fun e W' ⟨v,he,U',L',hst,hv,_⟩=>?_
 subst he;subst hv
 refine ⟨_,rfl,wMS (P:=Tryz.prog) hW' rfl wKJ ?_ (t:=4) (by kernel_rfl) Tryz.underlying4 true rfl rfl rfl hst.kp0⟩
 rw [Tryz.params5]
 intro t ht
 simp only [List.mem_cons,List.not_mem_nil,or_false] at ht
 rcases ht with rfl | rfl
 ·exact ⟨by kernel_rfl,of_decide_eq_true (by kernel_rfl)⟩
 ·exact ⟨by kernel_rfl,of_decide_eq_true (by kernel_rfl)⟩
theorem wLv:laidOutB Tryz.prog=true:=by kernel_rfl
theorem wLw:mapsRowed Tryz.prog=true:=by kernel_rfl
theorem wLx:(Tryz.prog.stops == [])=true:=by kernel_rfl
theorem wLy:(Tryz.prog.stopKnobs == [])=true:=by kernel_rfl
theorem wLz:(Rows.topUnusedRow.inPlace == Tryz.prog.inPlace 5)=true:=by kernel_rfl
theorem wMA:(Rows.topUnusedRow.unfollowed == Tryz.prog.unfollowed 5)=true:=by kernel_rfl
theorem wMB:(Rows.topUnusedRow.recurses == Tryz.prog.recurses 5)=true:=by kernel_rfl
theorem wMC:(Rows.topUnusedRow.named == Tryz.prog.varsNamed 5)=true:=by kernel_rfl
theorem wMD:(Rows.topUnusedRow.plainKeys == Tryz.prog.plainKeys)=true:=by kernel_rfl
theorem wME:Tryz.prog.stopsHeard=true:=by kernel_rfl
theorem wKt:Tryz.prog.mayEnter=true:=by kernel_rfl
theorem wKu:(Rows.topUnusedRow.lifted == Tryz.prog.liftsFinal)=true:=by kernel_rfl
theorem wKv:wHJ Tryz.prog Tryz.f5 Rows.topUnusedSpec Rows.topUnusedRow=true:=by kernel_rfl
theorem wIo:joinedFacts Tryz.prog 5 Tryz.f5 Rows.topUnusedSpec Rows.topUnusedRow=true:=wMV wLv wLw wLx wLy wLz wMA wMB wMC wMD wME wKt wKu wKv
theorem top_unused:Rows.TopUnusedSaid :=
 OpenClaim.holds_of_wide 5 Tryz.f5 rfl rfl rfl rfl rfl rfl rfl ⟨rfl,rfl,rfl,rfl,rfl⟩ rfl rfl rfl rfl rfl (by kernel_rfl) Tryz.func5 wIo
  (of_decide_eq_true (by kernel_rfl)) (by unfold Func.isWrapper;rw [if_neg (by decide +kernel)];exact ⟨rfl,rfl⟩)
  (fun os started H enc _=>wIn os started H enc)
#print axioms top_unused
end Go.Proofs.YtlmekamhphnmjaaGreat
