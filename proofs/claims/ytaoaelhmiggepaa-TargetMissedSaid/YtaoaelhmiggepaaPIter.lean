/- Loops without a bound, and a list turned round in place. -/
import Derived.Test.YtaoaelhmiggepaaVL
namespace Go.KL
variable {S B α : Type}
theorem iter_go {body : S → Option (S ⊕ B)} (F : Nat) : ∀ (m : Nat) (s : Nat → S), (∀ i, i < m → body (s i) = some (.inl (s (i + 1)))) → iter body (m + F) (s 0) = iter body F (s m)
  | 0, s, _ => by rw [Nat.zero_add]
  | m + 1, s, h => by
    rw [show m + 1 + F = (m + F) + 1 by omega, iter, h 0 (by omega)]
    exact iter_go F m (fun i => s (i + 1)) fun i hi => h (i + 1) (by omega)
theorem iter_at {body : S → Option (S ⊕ B)} {m : Nat} (s : Nat → S) (h : ∀ i, i < m → body (s i) = some (.inl (s (i + 1)))) {b : B} (hb : body (s m) = some (.inr b)) {s0 : S} (h0 : s 0 = s0) (hm : m < 1000000) : iter body big s0 = some b := by
  subst h0
  have := iter_go (big - m - 1 + 1) m s h
  rw [show m + (big - m - 1 + 1) = big by unfold big; omega] at this
  rw [this, iter, hb]
/-- With an invariant, and so many rounds at most. -/
theorem iter_ind {body : S → Option (S ⊕ B)} (I : Nat → S → Prop) (Z : B → Prop) (m : Nat) (step : ∀ i s, i ≤ m → I i s → (i < m ∧ ∃ s', body s = some (.inl s') ∧ I (i + 1) s') ∨ ∃ b, body s = some (.inr b) ∧ Z b) {s0 : S} (h0 : I 0 s0) (hm : m < 1000000) : ∃ b, iter body big s0 = some b ∧ Z b := by
  have key : ∀ (d i : Nat) (s : S), i + d = m → I i s → ∀ F, d < F → ∃ b, iter body F s = some b ∧ Z b := by
    intro d
    induction d with
    | zero =>
      intro i s hi hI F hF
      obtain ⟨F, rfl⟩ : ∃ G, F = G + 1 := ⟨F - 1, by omega⟩
      rcases step i s (by omega) hI with ⟨h, _⟩ | ⟨b, h1, h2⟩
      · omega
      · exact ⟨b, by rw [iter, h1], h2⟩
    | succ d ih =>
      intro i s hi hI F hF
      obtain ⟨F, rfl⟩ : ∃ G, F = G + 1 := ⟨F - 1, by omega⟩
      rcases step i s (by omega) hI with ⟨_, s', h1, h2⟩ | ⟨b, h1, h2⟩
      · obtain ⟨b, h3, h4⟩ := ih (i + 1) s' (by omega) h2 F (by omega)
        exact ⟨b, by rw [iter, h1]; exact h3, h4⟩
      · exact ⟨b, by rw [iter, h1], h2⟩
  exact key m 0 s0 (by omega) h0 big (by unfold big; omega)
theorem iter_ind_eq {body : S → Option (S ⊕ B)} (I : Nat → S → Prop) {b : B} (m : Nat) {s0 : S} (h0 : I 0 s0) (hm : m < 1000000) (step : ∀ i s, i ≤ m → I i s → (i < m ∧ ∃ s', body s = some (.inl s') ∧ I (i + 1) s') ∨ body s = some (.inr b)) : iter body big s0 = some b := by
  obtain ⟨c, h1, h2⟩ := iter_ind (body := body) I (fun c => c = b) m (fun i s hi hI => by
    rcases step i s hi hI with h | h
    · exact .inl h
    · exact .inr ⟨b, h, rfl⟩) h0 hm
  rw [h1, h2]
theorem gd_put [Inhabited α] {l : List α} {i k : Nat} {x : α} (hi : i < l.length) (hk : k < l.length) : gd (l.set i x) k = if k = i then x else gd l k := by
  have h1 := gd_at (xs := l.set i x) (k := k) (by rw [List.length_set]; exact hk)
  rw [List.getElem?_set] at h1
  by_cases e : i = k
  · subst e
    rw [if_pos rfl, if_pos hi] at h1
    rw [if_pos rfl]
    exact (Option.some.inj h1).symm
  · rw [if_neg e, gd_at hk] at h1
    rw [if_neg (fun h => e h.symm)]
    exact (Option.some.inj h1).symm
theorem gd_is [Inhabited α] {l : List α} {k : Nat} (h : k < l.length) : gd l k = l[k] := by
  have := gd_at h
  rw [List.getElem?_eq_getElem h] at this
  exact (Option.some.inj this).symm
theorem rev_loop [Inhabited α] {l : List α} (hl : l.length ≤ 100000) : iter (fun (l11, x12, x13) =>
    if x12 < x13 then
      (chk x13 l11.length).bind fun _ =>
      (chk x12 l11.length).bind fun _ =>
      (chk x13 (List.set l11 x12.toNat (gd l11 x13.toNat)).length).bind fun _ =>
      some (.inl ((List.set (List.set l11 x12.toNat (gd l11 x13.toNat)) x13.toNat (gd l11 x12.toNat)), w64 (x12 + 1), w64 (x13 - 1)))
    else
      esc (some l11)) big (l, (0 : Int), w64 ((↑l.length : Int) - 1)) = some l.reverse := by
  obtain ⟨b, h1, h2⟩ := iter_ind (S := List α × Int × Int) (B := List α) (body := fun (l11, x12, x13) =>
    if x12 < x13 then
      (chk x13 l11.length).bind fun _ =>
      (chk x12 l11.length).bind fun _ =>
      (chk x13 (List.set l11 x12.toNat (gd l11 x13.toNat)).length).bind fun _ =>
      some (.inl ((List.set (List.set l11 x12.toNat (gd l11 x13.toNat)) x13.toNat (gd l11 x12.toNat)), w64 (x12 + 1), w64 (x13 - 1)))
    else
      esc (some l11))
    (fun i s => s.1.length = l.length ∧ s.2.1 = i ∧ s.2.2 = (l.length : Int) - 1 - i ∧ ∀ k, k < l.length → gd s.1 k = if k < i ∨ l.length - i ≤ k then gd l (l.length - 1 - k) else gd l k) (fun b => b = l.reverse) (l.length / 2)
    (by
      rintro i ⟨c, a, b⟩ hi ⟨g1, g2, g3, g4⟩
      simp only at g1 g2 g3 g4
      subst g2 g3
      by_cases hlt : i < l.length / 2
      · left
        refine ⟨hlt, ?_⟩
        have hA : ((i : Int)).toNat = i := by omega
        have hB : ((l.length : Int) - 1 - i).toNat = l.length - 1 - i := by omega
        refine ⟨((c.set i (gd c (l.length - 1 - i))).set (l.length - 1 - i) (gd c i), (i : Int) + 1, (l.length : Int) - 1 - i - 1), ?_, ?_, by simp, by show (l.length : Int) - 1 - i - 1 = _; omega, fun k hk => ?_⟩
        · simp only
          rw [if_pos (by omega), chk_ok (by omega) (by omega), Option.bind_some, chk_ok (by omega) (by omega), Option.bind_some, List.length_set, chk_ok (by omega) (by omega), Option.bind_some, hA, hB, w64_in (by omega) (by omega), w64_in (by omega) (by omega)]
        · simp only [List.length_set]; exact g1
        · simp only
          rw [gd_put (by rw [List.length_set]; omega) (by rw [List.length_set]; omega), gd_put (by omega) (by omega)]
          by_cases e1 : k = l.length - 1 - i
          · rw [if_pos e1, if_pos (by omega), g4 i (by omega), if_neg (by omega)]
            congr 1
            omega
          · rw [if_neg e1]
            by_cases e2 : k = i
            · rw [if_pos e2, if_pos (by omega), g4 _ (by omega), if_neg (by omega)]
              congr 1
              omega
            · rw [if_neg e2, g4 k hk]
              by_cases e3 : k < i ∨ l.length - i ≤ k
              · rw [if_pos e3, if_pos (by omega)]
              · rw [if_neg e3, if_neg (by omega)]
      · right
        refine ⟨c, by simp only; rw [if_neg (by omega)]; rfl, ?_⟩
        apply List.ext_getElem?
        intro k
        rcases Nat.lt_or_ge k l.length with hk | hk
        · rw [gd_at (by omega), List.getElem?_reverse hk, gd_at (by omega), g4 k hk]
          congr 1
          split
          · rfl
          · congr 1
            omega
        · rw [List.getElem?_eq_none (by omega), List.getElem?_eq_none (by rw [List.length_reverse]; omega)])
    (s0 := (l, 0, w64 ((↑l.length : Int) - 1))) ⟨rfl, rfl, by show w64 _ = _; rw [w64_in (by omega) (by omega)]; omega, fun k hk => by rw [if_neg (by omega)]⟩ (by omega)
  rw [h1, h2]
end Go.KL
