/-
  'klisterlaw08.RelayTargets' answers true, whatever is passed in, which reads as it did.
-/
import Derived.Test.YtjfffcjjlnmneaaGreatRows
import Derived.Test.YtjfffcjjlnmneaaGreatVR
import Derived.Test.YtjfffcjjlnmneaaGreatW1
import Derived.Test.YtjfffcjjlnmneaaGreatPTargets
namespace Go.Proofs.YtjfffcjjlnmneaaGreat
open Go.KL
open Go.ChangeShapes Go.WideShapes Go.ChangeAt Go.RowKit

theorem fTargets_own : ownKnob Tryz.prog.godebug = none := by kernel_rfl
theorem fTargets_laid : laidOutB Tryz.prog = true := by kernel_rfl
theorem fTargets_e5 {H : Type} {enc : TypeId × Value → H} {W : World} {n : Nat} {cs : List Value} {y : DataW H × List MemPlace} (h : DataW.trod enc Tryz.prog W 0 (fun _ => true) true n 5 cs = some y) : ∃ x, cs = encB8 x ∧ True := by
  obtain ⟨x, e, _, _⟩ := DataW.trod_int Tryz.underlying5 h
  exact ⟨x, e, trivial⟩
theorem fTargets_cells5 : Tryz.prog.cellsOf 5 = 1 := by kernel_rfl

set_option maxRecDepth 100000 in
theorem fTargets_lifted (os : Os) (started : os.Started) (H : Type) (enc : TypeId × Value → H) :
    ReturnsInHanded {} Tryz.checked os 5 .any (Rows.relayTargetsSpec.pre6 enc Tryz.prog Tryz.f5 Rows.relayTargetsRow.domain false) (Rows.relayTargetsSpec.post enc Tryz.prog Tryz.f5 false true false false) := by
  refine returnsInHanded_of_change (C := Tryz.checked) fTargets_own started (by kernel_rfl) Tryz.func5
    (ChangeSpec.witness6 (enc := enc) (C := Tryz.checked) false ⟨#[], #[.slice none 0 0], []⟩ 8 (by kernel_rfl) (by kernel_rfl) (by kernel_rfl) (by kernel_rfl)) ?_
  intro W base args ds gs before hval0 hW hcnd _
  have hval : ∀ (j : Nat) t v, Tryz.f5.params[j]? = some t → args[j]? = some v → Value.okWide Tryz.prog W .any base t v := hval0
  have hW' := hW
  obtain ⟨p, q, hA0, hV, rfl, hfz, hnd⟩ := hW
  have hA : DataW.TrodAll enc Tryz.prog W 0 (fun _ => true) true Tryz.f5.params.toList args.toList ds p := hA0
  rw [Tryz.params5] at hA hval
  obtain ⟨v0, d0, rfl, rfl, h0⟩ := trodAll_one hA
  obtain ⟨rfl, rfl⟩ := trodVars_none hV
  obtain ⟨A0, k0, xs0, rfl, hS0, _⟩ := open_flat (f := encB8) (sz := 1) (by decide) (fun _ => rfl) Tryz.underlying22 fTargets_cells5 (fun _ => True) (fun _ _ _ => fTargets_e5) h0 (okWide_slice Tryz.underlying22 (hval 0 22 v0 rfl rfl))
  have hg := w_klisterlaw08_RelayTargets xs0 A0 k0 W _ (St.start W) hS0 (law_Targets xs0)
  refine Calls.mono' hg fun e W' ⟨v, he, φ', L', hst, hv, _⟩ => ?_
  subst he; subst hv
  refine ⟨_, rfl, post_bool (P := Tryz.prog) hW' rfl fTargets_laid ?_ (t := 4) (by kernel_rfl) Tryz.underlying4 true rfl rfl rfl hst.kp0⟩
  rw [Tryz.params5]
  intro t ht
  simp only [List.mem_cons, List.not_mem_nil, or_false] at ht
  subst ht
  · exact ⟨by kernel_rfl, of_decide_eq_true (by kernel_rfl)⟩

theorem fTargets_j0 : laidOutB Tryz.prog = true := by kernel_rfl
theorem fTargets_j1 : mapsRowed Tryz.prog = true := by kernel_rfl
theorem fTargets_j2 : (Tryz.prog.stops == []) = true := by kernel_rfl
theorem fTargets_j3 : (Tryz.prog.stopKnobs == []) = true := by kernel_rfl
theorem fTargets_j4 : (Rows.relayTargetsRow.inPlace == Tryz.prog.inPlace 5) = true := by kernel_rfl
theorem fTargets_j5 : (Rows.relayTargetsRow.unfollowed == Tryz.prog.unfollowed 5) = true := by kernel_rfl
theorem fTargets_j6 : (Rows.relayTargetsRow.recurses == Tryz.prog.recurses 5) = true := by kernel_rfl
theorem fTargets_j7 : (Rows.relayTargetsRow.named == Tryz.prog.varsNamed 5) = true := by kernel_rfl
theorem fTargets_j8 : (Rows.relayTargetsRow.plainKeys == Tryz.prog.plainKeys) = true := by kernel_rfl
theorem fTargets_j9 : Tryz.prog.stopsHeard = true := by kernel_rfl
theorem fTargets_j10 : Tryz.prog.mayEnter = true := by kernel_rfl
theorem fTargets_j11 : (Rows.relayTargetsRow.lifted == Tryz.prog.liftsFinal) = true := by kernel_rfl
theorem fTargets_j12 : lightFacts Tryz.prog Tryz.f5 Rows.relayTargetsSpec Rows.relayTargetsRow = true := by kernel_rfl
theorem fTargets_joined : joinedFacts Tryz.prog 5 Tryz.f5 Rows.relayTargetsSpec Rows.relayTargetsRow = true := joined_of fTargets_j0 fTargets_j1 fTargets_j2 fTargets_j3 fTargets_j4 fTargets_j5 fTargets_j6 fTargets_j7 fTargets_j8 fTargets_j9 fTargets_j10 fTargets_j11 fTargets_j12

theorem relay_targets : Rows.RelayTargetsSaid :=
  OpenClaim.holds_of_wide 5 Tryz.f5 rfl rfl rfl rfl rfl rfl rfl ⟨rfl, rfl, rfl, rfl, rfl⟩ rfl rfl rfl rfl rfl (by kernel_rfl) Tryz.func5 fTargets_joined
    (of_decide_eq_true (by kernel_rfl)) (by unfold Func.isWrapper; rw [if_neg (by decide +kernel)]; exact ⟨rfl, rfl⟩)
    (fun os started H enc _ => fTargets_lifted os started H enc)

#print axioms relay_targets
end Go.Proofs.YtjfffcjjlnmneaaGreat
