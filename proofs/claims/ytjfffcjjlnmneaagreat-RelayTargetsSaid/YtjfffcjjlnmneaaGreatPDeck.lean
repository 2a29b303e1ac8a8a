/- What decks deal. -/
import Derived.Test.YtjfffcjjlnmneaaGreatMod
import Derived.Test.YtjfffcjjlnmneaaGreatVL
namespace Go.Proofs.YtjfffcjjlnmneaaGreat
open Go.KL

theorem rem_in {a b : Int} (h0 : 0 ≤ a) (hb : 0 < b) : ∃ x, rem a b = some x ∧ 0 ≤ x ∧ x < b := by
  refine ⟨a.tmod b, if_neg (by omega), ?_, ?_⟩
  · rw [Int.tmod_eq_emod_of_nonneg h0]; exact Int.emod_nonneg _ (by omega)
  · rw [Int.tmod_eq_emod_of_nonneg h0]; exact Int.emod_lt_of_pos _ hb
theorem wu32_lo (x : Int) : 0 ≤ wu32 x := by unfold wu32; omega
theorem wu32_hi (x : Int) : wu32 x < 4294967296 := by unfold wu32; omega
theorem w64u (x : Int) : w64 (wu32 x) = wu32 x := by
  have := wu32_lo x
  have := wu32_hi x
  exact w64_in (by omega) (by omega)
theorem quo_some (a : Int) {b : Int} (hb : b ≠ 0) : ∃ x, quo a b = some x := ⟨_, if_neg hb⟩

theorem draw_ok (d : T_klisterkit_Deck) (n : Int) (h0 : 0 ≤ d.next) (h1 : d.next ≤ 1000000) : ∃ x d', m_klisterkit_Deck_Draw d n = some (x, d') ∧ 0 ≤ d'.next ∧ d'.next ≤ d.next + 1 ∧ 0 ≤ x ∧ (x < n ∨ (n ≤ 1 ∧ x = 0)) := by
  unfold m_klisterkit_Deck_Draw
  by_cases hn : n ≤ 1
  · exact ⟨0, d, by rw [if_pos hn], h0, by omega, by omega, .inr ⟨hn, rfl⟩⟩
  rw [if_neg hn]
  by_cases hl : (d.bytes.length : Int) = 0
  · exact ⟨0, d, by rw [if_pos hl], h0, by omega, by omega, .inl (by omega)⟩
  rw [if_neg hl]
  obtain ⟨r, e1, r0, r1⟩ := rem_in h0 (show (0 : Int) < d.bytes.length by omega)
  obtain ⟨b, e2⟩ : ∃ b, idx d.bytes r = some b := by
    unfold idx
    rw [if_pos r0, List.getElem?_eq_getElem (by omega)]
    exact ⟨_, rfl⟩
  obtain ⟨q, e3⟩ := quo_some d.next (b := d.bytes.length) hl
  obtain ⟨st, e4, _, _⟩ := rem_in (wu32_lo ((wu32 ((wu32 ((wu32 (d.state * 45)) + (wu32 b))) + (wu32 (77 * (wu32 q))))) + 1)) (b := 65519) (by decide)
  rw [e1, Option.bind_some, e2, Option.bind_some, e3, Option.bind_some, e4, Option.bind_some, w64_in (x := d.next + 1) (by omega) (by omega)]
  have fin : ∀ z : Int, ∃ x d', ((rem (w64 (wu32 z)) n).bind fun x => some (x, (⟨d.bytes, d.next + 1, st⟩ : T_klisterkit_Deck))) = some (x, d') ∧ 0 ≤ d'.next ∧ d'.next ≤ d.next + 1 ∧ 0 ≤ x ∧ (x < n ∨ (n ≤ 1 ∧ x = 0)) := by
    intro z
    obtain ⟨x, e5, x0, x1⟩ := rem_in (a := w64 (wu32 z)) (b := n) (by rw [w64u]; exact wu32_lo z) (by omega)
    exact ⟨x, _, by rw [e5]; rfl, by show 0 ≤ d.next + 1; omega, by show d.next + 1 ≤ _; omega, x0, .inl x1⟩
  by_cases c1 : wu32 q = 0
  · rw [if_pos c1]
    by_cases c2 : n ≤ 256
    · rw [if_pos c2]; exact fin _
    · rw [if_neg c2]; exact fin _
  · rw [if_neg c1]; exact fin _
theorem deal_ok (d : T_klisterkit_Deck) (a b : Int) (h0 : 0 ≤ d.next) (h1 : d.next ≤ 1000000) (ha : -1000000 ≤ a) (hab : a ≤ b) (hb : b ≤ 1000000) : ∃ x d', m_klisterkit_Deck_Between d a b = some (x, d') ∧ 0 ≤ d'.next ∧ d'.next ≤ d.next + 1 ∧ a ≤ x ∧ x ≤ b := by
  unfold m_klisterkit_Deck_Between
  rw [w64_in (x := b - a) (by omega) (by omega), w64_in (x := b - a + 1) (by omega) (by omega)]
  obtain ⟨x, d', e, n0, n1, x0, x1⟩ := draw_ok d (b - a + 1) h0 h1
  refine ⟨a + x, d', ?_, n0, n1, by omega, by omega⟩
  rw [e, Option.bind_some]
  simp only
  rw [w64_in (by omega) (by omega)]
end Go.Proofs.YtjfffcjjlnmneaaGreat
