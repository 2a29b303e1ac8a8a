/- What 'target.Between' returns. -/
import Derived.Test.YtnllmignponhdaaPSheetK
namespace Go.Proofs.Ytnllmignponhdaa
open Go.KL

theorem between_bad {n : Int} {l : List T_target_Sheet} (h : shErr n l ≠ 0) (f t : Int) : m_target_Between n l f t = some (⟨0, 0⟩, shErr n l) := by
  obtain ⟨y, hc⟩ := counted_bad h
  unfold m_target_Between
  rw [hc, Option.bind_some]
  simp only
  have h7 : shErr n l ≠ 7 := by have := shErr_cases n l; omega
  rw [if_neg h, Option.bind_some, decide_eq_false h7, if_neg (by decide), if_neg h]
theorem between_prog {n : Nat} {l : List T_target_Sheet} {y : Arr Int 81} {ok : Bool} {ks : List T_target_link} (hn : n ≤ 8) (hc : m_target_counted n l = some (y, if ok = true then 0 else 7)) (D : Dist n ks y ok) (f t : Int) :
    m_target_Between n l f t = some (if 0 ≤ f ∧ f ≤ t ∧ t < n then (if ok = true then (⟨-(mx y (t + 1).toNat f.toNat), mx y f.toNat (t + 1).toNat⟩, 0) else (⟨0, 0⟩, 7)) else (⟨0, 0⟩, 1)) := by
  unfold m_target_Between
  rw [hc, Option.bind_some]
  simp only
  have e : (if (if ok = true then (0 : Int) else 7) = 0 then some true else some (decide ((if ok = true then (0 : Int) else 7) = 7))) = some true := by cases ok <;> rfl
  rw [e, Option.bind_some, if_pos rfl, within_is, Option.bind_some]
  by_cases h : 0 ≤ f ∧ f ≤ t ∧ t < n
  · rw [if_pos h, if_pos (by simpa using ⟨h.1, h.2.1⟩), Option.bind_some, if_neg (by simp; omega)]
    have hw : w64 (t + 1) = t + 1 := w64_in (by omega) (by omega)
    have b1 := D.lo (t + 1).toNat f.toNat (by omega) (by omega)
    have b2 := D.hi (t + 1).toNat f.toNat (by omega) (by omega)
    cases ok with
    | true =>
      simp only [if_true]
      rw [hw, chk_ok (by omega) (by omega), Option.bind_some, chk_ok (by omega) (by omega), Option.bind_some]
      have : w64 (-(y.get ((t + 1).toNat * 9 + f.toNat))) = -(mx y (t + 1).toNat f.toNat) := w64_in (by show _ ≤ -(mx y (t + 1).toNat f.toNat); omega) (by show -(mx y (t + 1).toNat f.toNat) ≤ _; omega)
      rw [this]
      rfl
    | false => rfl
  · rw [if_neg h]
    by_cases h1 : 0 ≤ f ∧ f ≤ t
    · rw [if_pos (by simpa using h1), Option.bind_some, if_pos (by simp; omega)]
    · rw [if_neg (by simpa using h1), Option.bind_some, if_pos rfl]

end Go.Proofs.Ytnllmignponhdaa
