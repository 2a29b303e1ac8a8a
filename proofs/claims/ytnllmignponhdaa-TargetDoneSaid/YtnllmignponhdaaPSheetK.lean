/- Spans of loops that the program counts; sums of first numbers. -/
import Derived.Test.YtnllmignponhdaaPSheetA
namespace Go.Proofs.Ytnllmignponhdaa
open Go.KL

/-- The sum of the first numbers. -/
def pre (t : List Int) (b : Nat) : Int := (t.take b).sum
theorem pre_zero (t : List Int) : pre t 0 = 0 := by simp [pre]
theorem pre_succ {t : List Int} {b : Nat} (h : b < t.length) : pre t (b + 1) = pre t b + t[b] := by
  unfold pre
  rw [List.take_add_one, List.getElem?_eq_getElem h, List.sum_append]
  simp
theorem pre_bnd {t : List Int} (h : ∀ d ∈ t, 0 ≤ d ∧ d ≤ 9) : ∀ b, b ≤ t.length → 0 ≤ pre t b ∧ pre t b ≤ 9 * b
  | 0, _ => by rw [pre_zero]; omega
  | b + 1, hb => by
    have := pre_bnd h b (by omega)
    have := h _ (List.getElem_mem (show b < t.length by omega))
    rw [pre_succ (by omega)]
    omega
theorem pre_mono {t : List Int} (h : ∀ d ∈ t, 0 ≤ d ∧ d ≤ 9) {a : Nat} : ∀ b, a ≤ b → b ≤ t.length → pre t a ≤ pre t b
  | 0, ha, _ => by rw [show a = 0 by omega]; omega
  | b + 1, ha, hb => by
    by_cases e : a = b + 1
    · subst e; omega
    · have := pre_mono h (a := a) b (by omega) (by omega)
      have := h _ (List.getElem_mem (show b < t.length by omega))
      rw [pre_succ (show b < t.length by omega)]
      omega
theorem gd_lt {t : List Int} {b : Nat} (h : b < t.length) : gd t b = t[b] := by
  have := gd_at h
  rw [List.getElem?_eq_getElem h] at this
  exact (Option.some.inj this).symm

theorem Fit.up {n : Nat} {l : List T_target_Sheet} {o : List Int} {x : Nat → Int} (F : Fit n l o x) : ∀ b, b ≤ n → 0 ≤ x b - x 0 ∧ x b - x 0 ≤ 9 * b
  | 0, _ => by omega
  | b + 1, hb => by
    have := F.up b (by omega)
    have := F.bo b (by omega)
    omega
theorem Fit.far {n : Nat} {l : List T_target_Sheet} {o : List Int} {x : Nat → Int} (F : Fit n l o x) (hn : n ≤ 8) : ∀ a b, a ≤ n → b ≤ n → x b - x a ≤ 1048576 := by
  intro a b ha hb
  have := F.up a ha
  have := F.up b hb
  omega
theorem shErr_cases (n : Int) (l : List T_target_Sheet) : shErr n l = 0 ∨ shErr n l = 1 ∨ shErr n l = 2 ∨ shErr n l = 3 := by
  unfold shErr
  split
  · omega
  · split
    · split <;> omega
    · omega
theorem shErr_ok {n : Int} {l : List T_target_Sheet} (h : shErr n l = 0) : 1 ≤ n ∧ n ≤ 8 ∧ l.length ≤ 20 ∧ ∀ s ∈ l, okSheet n.toNat s := by
  unfold shErr at h
  split at h
  · cases h
  · split at h
    · split at h
      · rename_i h1 h2 h3
        refine ⟨by omega, by omega, by omega, fun s hs => ?_⟩
        have a1 := of_decide_eq_true (List.all_eq_true.1 h2 s hs)
        have a2 := of_decide_eq_true (List.all_eq_true.1 h3 s hs)
        exact ⟨a1.1, a1.2.1, by omega, a2.1, a2.2.1, a2.2.2⟩
      · cases h
    · cases h

theorem counted_bad {n : Int} {l : List T_target_Sheet} (h : shErr n l ≠ 0) : ∃ y, m_target_counted n l = some (y, shErr n l) := by
  unfold m_target_counted
  rw [check_eq, Option.bind_some, if_neg h]
  exact ⟨_, rfl⟩
theorem counted_good {n : Nat} {l : List T_target_Sheet} (h : shErr n l = 0) : ∃ y ok ks, m_target_counted n l = some (y, if ok = true then 0 else 7) ∧ Dist n ks y ok ∧ (∀ k ∈ ks, lkOk n k) ∧ ∀ x, Feas ks x ↔ Fit n l [] x := by
  obtain ⟨h1, h2, h3, h4⟩ := shErr_ok h
  obtain ⟨ks, g1, g2, g3, g4⟩ := links_eq (n := n) (by omega) h3 (fun s hs => by have := h4 s hs; rwa [Int.toNat_natCast] at this) (owed := []) (by simp) (fun k hk => by cases hk)
  obtain ⟨y, ok, d1, d2⟩ := dist_eq (n := n) (by omega) g2 g3
  refine ⟨y, ok, ks, ?_, d2, g2, g4⟩
  unfold m_target_counted
  rw [check_eq, Option.bind_some, if_pos h, g1, Option.bind_some, d1]
  cases ok <;> rfl

theorem skied_good {n : Nat} {l : List T_target_Sheet} {y : Arr Int 81} {ok : Bool} {ks : List T_target_link} (hn : n ≤ 8) (hc : m_target_counted n l = some (y, if ok = true then 0 else 7)) (D : Dist n ks y ok) :
    m_target_Skied n l = some (if ok = true then ((List.range n).map fun k => ⟨-(mx y (k + 1) k), mx y k (k + 1)⟩, 0) else ([], 7)) := by
  unfold m_target_Skied
  rw [hc, Option.bind_some]
  cases ok with
  | false => rfl
  | true =>
    simp only [if_true]
    rw [forR'_list (by omega)]
    obtain ⟨r, g1, g2⟩ := forN'_inv (S := List T_api_Span) (body := fun k39 l35 =>
      (chk (↑(k39 + 1) : Int) 9).bind fun _ =>
      (chk (↑k39 : Int) 9).bind fun _ =>
      (app 16 l35 [(⟨w64 (-(y.get ((k39 + 1) * 9 + k39))), (y.get (k39 * 9 + (k39 + 1)))⟩ : T_api_Span)]).bind fun x75 =>
      some x75) (fun k r => r = (List.range k).map fun k => ⟨-(mx y (k + 1) k), mx y k (k + 1)⟩) n 0 [] rfl
      (by
        intro i r _ hi hr
        subst hr
        have b1 := D.lo (i + 1) i (by omega) (by omega)
        have b2 := D.hi (i + 1) i (by omega) (by omega)
        rw [chk_ok (by omega) (by omega), Option.bind_some, chk_ok (by omega) (by omega), Option.bind_some, app_ok (by simp only [List.length_map, List.length_range, List.length_cons, List.length_nil]; omega)]
        refine ⟨_, rfl, ?_⟩
        rw [List.range_succ, List.map_append]
        have : w64 (-(y.get ((i + 1) * 9 + i))) = -(mx y (i + 1) i) := w64_in (by show _ ≤ -(mx y (i + 1) i); omega) (by show -(mx y (i + 1) i) ≤ _; omega)
        rw [this]
        rfl)
    rw [g1, g2, Nat.zero_add]
    rfl
theorem skied_bad {n : Int} {l : List T_target_Sheet} (h : shErr n l ≠ 0) : m_target_Skied n l = some ([], shErr n l) := by
  obtain ⟨y, hc⟩ := counted_bad h
  unfold m_target_Skied
  rw [hc, Option.bind_some]
  simp only
  rw [if_neg h]

end Go.Proofs.Ytnllmignponhdaa
