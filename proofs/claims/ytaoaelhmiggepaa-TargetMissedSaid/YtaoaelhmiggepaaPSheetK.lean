/- Spans of loops that the program counts; sums of first numbers. -/
import Derived.Test.YtaoaelhmiggepaaPSheetA
namespace Go.Proofs.Ytaoaelhmiggepaa
open Go.KL

/-- The sum of the first numbers. -/
def pre (t : List Int) (b : Nat) : Int := (t.take b).sum
theorem pre_zero (t : List Int) : pre t 0 = 0 := by simp [pre]
theorem pre_succ {t : List Int} {b : Nat} (h : b < t.length) : pre t (b + 1) = pre t b + t[b] := by
  unfold pre
  rw [List.take_add_one, List.getElem?_eq_getElem h, List.sum_append]
  simp
theorem pre_bnd {t : List Int} (h : ∀ d ∈ t, 0 ≤ d ∧ d ≤ 9) : ∀ b, b ≤ t.length → 0 ≤ pre t b ∧ pre t b ≤ 9 * b
  | 0, _ => by rw [pre_zero]; omega
  | b + 1, hb => by
    have := pre_bnd h b (by omega)
    have := h _ (List.getElem_mem (show b < t.length by omega))
    rw [pre_succ (by omega)]
    omega
theorem pre_mono {t : List Int} (h : ∀ d ∈ t, 0 ≤ d ∧ d ≤ 9) {a : Nat} : ∀ b, a ≤ b → b ≤ t.length → pre t a ≤ pre t b
  | 0, ha, _ => by rw [show a = 0 by omega]; omega
  | b + 1, ha, hb => by
    by_cases e : a = b + 1
    · subst e; omega
    · have := pre_mono h (a := a) b (by omega) (by omega)
      have := h _ (List.getElem_mem (show b < t.length by omega))
      rw [pre_succ (show b < t.length by omega)]
      omega
theorem Fit.up {n : Nat} {l : List T_target_Sheet} {o : List Int} {x : Nat → Int} (F : Fit n l o x) : ∀ b, b ≤ n → 0 ≤ x b - x 0 ∧ x b - x 0 ≤ 9 * b
  | 0, _ => by omega
  | b + 1, hb => by
    have := F.up b (by omega)
    have := F.bo b (by omega)
    omega
theorem Fit.far {n : Nat} {l : List T_target_Sheet} {o : List Int} {x : Nat → Int} (F : Fit n l o x) (hn : n ≤ 8) : ∀ a b, a ≤ n → b ≤ n → x b - x a ≤ 1048576 := by
  intro a b ha hb
  have := F.up a ha
  have := F.up b hb
  omega
theorem shErr_ok {n : Int} {l : List T_target_Sheet} (h : shErr n l = 0) : 1 ≤ n ∧ n ≤ 8 ∧ l.length ≤ 20 ∧ ∀ s ∈ l, okSheet n.toNat s := by
  unfold shErr at h
  split at h
  · cases h
  · split at h
    · split at h
      · rename_i h1 h2 h3
        refine ⟨by omega, by omega, by omega, fun s hs => ?_⟩
        have a1 := of_decide_eq_true (List.all_eq_true.1 h2 s hs)
        have a2 := of_decide_eq_true (List.all_eq_true.1 h3 s hs)
        exact ⟨a1.1, a1.2.1, by omega, a2.1, a2.2.1, a2.2.2⟩
      · cases h
    · cases h

end Go.Proofs.Ytaoaelhmiggepaa
