/-
  'klisterlaw08.RelayChanced' answers true, whatever is passed in, which reads as it did.
-/
import Derived.Test.YtfdnbaahdjlapaaGreatRows
import Derived.Test.YtfdnbaahdjlapaaGreatVR
import Derived.Test.YtfdnbaahdjlapaaGreatW1
import Derived.Test.YtfdnbaahdjlapaaGreatPChanced
namespace Go.Proofs.YtfdnbaahdjlapaaGreat
open Go.KL
open Go.ChangeShapes Go.WideShapes Go.ChangeAt Go.RowKit

theorem fChanced_own : ownKnob Tryz.prog.godebug = none := by kernel_rfl
theorem fChanced_laid : laidOutB Tryz.prog = true := by kernel_rfl
theorem fChanced_e5 {H : Type} {enc : TypeId × Value → H} {W : World} {n : Nat} {cs : List Value} {y : DataW H × List MemPlace} (h : DataW.trod enc Tryz.prog W 0 (fun _ => true) true n 5 cs = some y) : ∃ x, cs = encB8 x ∧ True := by
  obtain ⟨x, e, _, _⟩ := DataW.trod_int Tryz.underlying5 h
  exact ⟨x, e, trivial⟩
theorem fChanced_cells5 : Tryz.prog.cellsOf 5 = 1 := by kernel_rfl

set_option maxRecDepth 100000 in
theorem fChanced_lifted (os : Os) (started : os.Started) (H : Type) (enc : TypeId × Value → H) :
    ReturnsInHanded {} Tryz.checked os 5 .any (Rows.relayChancedSpec.pre6 enc Tryz.prog Tryz.f5 Rows.relayChancedRow.domain false) (Rows.relayChancedSpec.post enc Tryz.prog Tryz.f5 false true false false) := by
  refine returnsInHanded_of_change (C := Tryz.checked) fChanced_own started (by kernel_rfl) Tryz.func5
    (ChangeSpec.witness6 (enc := enc) (C := Tryz.checked) false ⟨#[], #[.slice none 0 0, .slice none 0 0], []⟩ 8 (by kernel_rfl) (by kernel_rfl) (by kernel_rfl) (by kernel_rfl)) ?_
  intro W base args ds gs before hval0 hW hcnd _
  have hval : ∀ (j : Nat) t v, Tryz.f5.params[j]? = some t → args[j]? = some v → Value.okWide Tryz.prog W .any base t v := hval0
  have hW' := hW
  obtain ⟨p, q, hA0, hV, rfl, hfz, hnd⟩ := hW
  have hA : DataW.TrodAll enc Tryz.prog W 0 (fun _ => true) true Tryz.f5.params.toList args.toList ds p := hA0
  rw [Tryz.params5] at hA hval
  obtain ⟨v0, v1, d0, d1, p0, p1, rfl, rfl, rfl, h0, h1⟩ := trodAll_two hA
  obtain ⟨rfl, rfl⟩ := trodVars_none hV
  obtain ⟨A0, k0, xs0, rfl, hS0, _⟩ := open_flat (f := encB8) (sz := 1) (by decide) (fun _ => rfl) Tryz.underlying51 fChanced_cells5 (fun _ => True) (fun _ _ _ => fChanced_e5) h0 (okWide_slice Tryz.underlying51 (hval 0 51 v0 rfl rfl))
  obtain ⟨A1, k1, xs1, rfl, hS1, _⟩ := open_flat (f := encB8) (sz := 1) (by decide) (fun _ => rfl) Tryz.underlying51 fChanced_cells5 (fun _ => True) (fun _ _ _ => fChanced_e5) h1 (okWide_slice Tryz.underlying51 (hval 1 51 v1 rfl rfl))
  have hg := w_klisterlaw08_RelayChanced xs0 A0 k0 xs1 A1 k1 W _ (St.start W) hS0 hS1 (law_Chanced xs0 xs1)
  refine Calls.mono' hg fun e W' ⟨v, he, φ', L', hst, hv, _⟩ => ?_
  subst he; subst hv
  refine ⟨_, rfl, post_bool (P := Tryz.prog) hW' rfl fChanced_laid ?_ (t := 4) (by kernel_rfl) Tryz.underlying4 true rfl rfl rfl hst.kp0⟩
  rw [Tryz.params5]
  intro t ht
  simp only [List.mem_cons, List.not_mem_nil, or_false] at ht
  rcases ht with rfl | rfl
  · exact ⟨by kernel_rfl, of_decide_eq_true (by kernel_rfl)⟩
  · exact ⟨by kernel_rfl, of_decide_eq_true (by kernel_rfl)⟩

theorem relay_chanced : Rows.RelayChancedSaid :=
  OpenClaim.holds_of_wide 5 Tryz.f5 rfl rfl rfl rfl rfl rfl rfl ⟨rfl, rfl, rfl, rfl, rfl⟩ rfl rfl rfl rfl rfl (by kernel_rfl) Tryz.func5 (by kernel_rfl)
    (of_decide_eq_true (by kernel_rfl)) (by unfold Func.isWrapper; rw [if_neg (by decide +kernel)]; exact ⟨rfl, rfl⟩)
    (fun os started H enc _ => fChanced_lifted os started H enc)

#print axioms relay_chanced
end Go.Proofs.YtfdnbaahdjlapaaGreat
