import Derived.Test.YtlmekamhphnmjaaGreatRows
import Derived.Test.YtlmekamhphnmjaaGreatQ0
import Derived.Test.YtlmekamhphnmjaaGreatQ6
import Derived.Test.YtlmekamhphnmjaaGreatQ1
set_option linter.all false
namespace Go.Proofs.YtlmekamhphnmjaaGreat
open Go.KL
open Go.ChangeShapes Go.WideShapes Go.ChangeAt Go.RowKit
theorem wII:ownKnob Tryz.prog.godebug=none:=by kernel_rfl
theorem wHb:laidOutB Tryz.prog=true:=by kernel_rfl
theorem wIr {H:Type} {enc:TypeId × Value->H} {W:World} {n:Nat} {cs:List Value} {y:DataW H × List MemPlace} (h:DataW.trod enc Tryz.prog W 0 (fun _=>true) true n 5 cs=some y):∃ x,cs=KL.encB8 x/\True:=by
 obtain ⟨x,e,_,_⟩:=DataW.trod_int Tryz.underlying5 h
 exact ⟨x,e,trivial⟩
theorem wGh:Tryz.prog.cellsOf 5=1:=by kernel_rfl
set_option maxRecDepth 100000 in
theorem wGi (os:Os) (started:os.Started) (H:Type) (enc:TypeId × Value->H) :
  ReturnsInHanded {} Tryz.checked os 3 .any (Rows.topMissingSpec.pre6 enc Tryz.prog Tryz.f3 Rows.topMissingRow.domain false) (Rows.topMissingSpec.post enc Tryz.prog Tryz.f3 false true false false):=by
 refine returnsInHanded_of_change (C:=Tryz.checked) wII started (by kernel_rfl) Tryz.func3
  (ChangeSpec.witness6 (enc:=enc) (C:=Tryz.checked) false ⟨#[],#[.slice none 0 0],[]⟩ 8 (by kernel_rfl) (by kernel_rfl) (by kernel_rfl) (by kernel_rfl)) ?_
 intro W base args ds gs before hval0 hW hcnd _
 have hval:∀ (j:Nat) t v,Tryz.f3.params[j]?=some t->args[j]?=some v->Value.okWide Tryz.prog W .any base t v:=hval0
 have hW':=hW
 obtain ⟨p,q,hA0,hV,rfl,hfz,hnd⟩:=hW
 have hA:DataW.TrodAll enc Tryz.prog W 0 (fun _=>true) true Tryz.f3.params.toList args.toList ds p:=hA0
 rw [Tryz.params3] at hA hval
 obtain ⟨v0,d0,rfl,rfl,h0⟩:=trodAll_one hA
 obtain ⟨rfl,rfl⟩:=trodVars_none hV
 obtain ⟨A0,k0,xs0,rfl,hS0,_⟩:=wJt (f:=KL.encB8) (sz:=1) (by decide) (fun _=>rfl) Tryz.underlying22 wGh (fun _=>True) (fun _ _ _=>wIr) h0 (okWide_slice Tryz.underlying22 (hval 0 22 v0 rfl rfl))
 have hg:=wET xs0 A0 k0 W _ (St.start W) hS0 (wIq xs0)
 refine Calls.mono' hg fun e W' ⟨v,he,U',L',hst,hv,_⟩=>?_
 subst he;subst hv
 refine ⟨_,rfl,wJr (P:=Tryz.prog) hW' rfl wHb ?_ (t:=4) (by kernel_rfl) Tryz.underlying4 true rfl rfl rfl hst.kp0⟩
 rw [Tryz.params3]
 intro t ht
 simp only [List.mem_cons,List.not_mem_nil,or_false] at ht
 subst ht
 ·exact ⟨by kernel_rfl,of_decide_eq_true (by kernel_rfl)⟩
theorem wIs:laidOutB Tryz.prog=true:=by kernel_rfl
theorem wIt:mapsRowed Tryz.prog=true:=by kernel_rfl
theorem wIu:(Tryz.prog.stops == [])=true:=by kernel_rfl
theorem wIv:(Tryz.prog.stopKnobs == [])=true:=by kernel_rfl
theorem wIw:(Rows.topMissingRow.inPlace == Tryz.prog.inPlace 3)=true:=by kernel_rfl
theorem wIx:(Rows.topMissingRow.unfollowed == Tryz.prog.unfollowed 3)=true:=by kernel_rfl
theorem wIy:(Rows.topMissingRow.recurses == Tryz.prog.recurses 3)=true:=by kernel_rfl
theorem wIz:(Rows.topMissingRow.named == Tryz.prog.varsNamed 3)=true:=by kernel_rfl
theorem wJA:(Rows.topMissingRow.plainKeys == Tryz.prog.plainKeys)=true:=by kernel_rfl
theorem wJB:Tryz.prog.stopsHeard=true:=by kernel_rfl
theorem wIJ:Tryz.prog.mayEnter=true:=by kernel_rfl
theorem wIK:(Rows.topMissingRow.lifted == Tryz.prog.liftsFinal)=true:=by kernel_rfl
theorem wIL:wFq Tryz.prog Tryz.f3 Rows.topMissingSpec Rows.topMissingRow=true:=by kernel_rfl
theorem wGj:joinedFacts Tryz.prog 3 Tryz.f3 Rows.topMissingSpec Rows.topMissingRow=true:=wJu wIs wIt wIu wIv wIw wIx wIy wIz wJA wJB wIJ wIK wIL
theorem top_missing:Rows.TopMissingSaid :=
 OpenClaim.holds_of_wide 3 Tryz.f3 rfl rfl rfl rfl rfl rfl rfl ⟨rfl,rfl,rfl,rfl,rfl⟩ rfl rfl rfl rfl rfl (by kernel_rfl) Tryz.func3 wGj
  (of_decide_eq_true (by kernel_rfl)) (by unfold Func.isWrapper;rw [if_neg (by decide +kernel)];exact ⟨rfl,rfl⟩)
  (fun os started H enc _=>wGi os started H enc)
#print axioms top_missing
end Go.Proofs.YtlmekamhphnmjaaGreat
