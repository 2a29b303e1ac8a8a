/- All links by name, and where a step leads. -/
import Derived.Test.YtaoaelhmiggepaaPRoundB
namespace Go.Proofs.Ytaoaelhmiggepaa
open Go.KL

def knS (l : List T_target_Sheet) (m : Nat) : List T_target_link := (List.range m).flatMap fun (i : Nat) => [lnk 0 i (gd l i).From ((gd l i).To + 1) (gd l i).Loops.Hi, lnk 1 i ((gd l i).To + 1) (gd l i).From (-(gd l i).Loops.Lo)]
def knB (m : Nat) : List T_target_link := (List.range m).flatMap fun (b : Nat) => [lnk 2 b b ↑(b + 1) 9, lnk 3 b ↑(b + 1) b 0]
def knO (o : List Int) (m : Nat) : List T_target_link := (List.range m).map fun (b : Nat) => lnk 4 b ↑(b + 1) b (-(gd o b))
def known (n : Nat) (l : List T_target_Sheet) (o : List Int) : List T_target_link := knS l l.length ++ (knB n ++ knO o o.length)

theorem knS_succ (l : List T_target_Sheet) (m : Nat) : knS l (m + 1) = knS l m ++ [lnk 0 m (gd l m).From ((gd l m).To + 1) (gd l m).Loops.Hi, lnk 1 m ((gd l m).To + 1) (gd l m).From (-(gd l m).Loops.Lo)] := by
  simp [knS, List.range_succ, List.flatMap_append]
theorem knB_succ (m : Nat) : knB (m + 1) = knB m ++ [lnk 2 m m ↑(m + 1) 9, lnk 3 m ↑(m + 1) m 0] := by
  simp [knB, List.range_succ, List.flatMap_append]
theorem knO_succ (o : List Int) (m : Nat) : knO o (m + 1) = knO o m ++ [lnk 4 m ↑(m + 1) m (-(gd o m))] := by
  simp [knO, List.range_succ]
theorem knS_len (l : List T_target_Sheet) : ∀ m, (knS l m).length = 2 * m
  | 0 => rfl
  | m + 1 => by rw [knS_succ, List.length_append, knS_len l m]; simp only [List.length_cons, List.length_nil]; omega
theorem knB_len : ∀ m, (knB m).length = 2 * m
  | 0 => rfl
  | m + 1 => by rw [knB_succ, List.length_append, knB_len m]; simp only [List.length_cons, List.length_nil]; omega
theorem knO_len (o : List Int) (m : Nat) : (knO o m).length = m := by simp [knO]

theorem links_known {n : Nat} (hn : n ≤ 8) {l : List T_target_Sheet} (hl : l.length ≤ 20) (hs : ∀ s ∈ l, okSheet n s) {owed : List Int} (ho : owed.length ≤ n) (hw : ∀ k ∈ owed, 0 ≤ k ∧ k ≤ 5) : m_target_links (n : Int) l owed = some (known n l owed) := by
  unfold m_target_links
  rw [forR'_list (by omega)]
  obtain ⟨k1, g1, h1⟩ := forN'_inv (S := List T_target_link) (body := fun k22 l17 =>
    (idx l (↑k22 : Int)).bind fun x49 =>
    (m_target_links_1 x49.Loops.Hi).bind fun x66 =>
    (m_target_links_1 (w64 (-x49.Loops.Lo))).bind fun x81 =>
    (app 40 l17 [(⟨(⟨0, (↑k22 : Int)⟩ : T_target_Step), x49.From, w64 (x49.To + 1), x66⟩ : T_target_link), (⟨(⟨1, (↑k22 : Int)⟩ : T_target_Step), w64 (x49.To + 1), x49.From, x81⟩ : T_target_link)]).bind fun x103 =>
    some x103) (fun i ks => ks = knS l i) l.length 0 [] rfl
    (by
      intro i ks _ hi hks
      subst hks
      have hlt : i < l.length := by omega
      obtain ⟨s0, s1, s2, s3, s4, s5⟩ := hs _ (List.getElem_mem hlt)
      have e : gd l i = l[i] := by
        have := gd_at hlt
        rw [List.getElem?_eq_getElem hlt] at this
        exact (Option.some.inj this).symm
      rw [idx_nat, List.getElem?_eq_getElem hlt, Option.bind_some]
      have w1 : w64 (l[i].To + 1) = l[i].To + 1 := w64_in (by omega) (by omega)
      have w2 : w64 (-l[i].Loops.Lo) = -l[i].Loops.Lo := w64_in (by omega) (by omega)
      rw [w1, w2]
      refine ⟨_, ?_, rfl⟩
      rw [knS_succ, e]
      show ((app 40 (knS l i) [lnk 0 i l[i].From (l[i].To + 1) l[i].Loops.Hi, lnk 1 i (l[i].To + 1) l[i].From (-l[i].Loops.Lo)]).bind fun x103 => some x103) = _
      rw [app_ok (by rw [knS_len]; simp only [List.length_cons, List.length_nil]; omega)]
      rfl)
  rw [g1, Option.bind_some, forR'_list (by omega), h1, Nat.zero_add]
  obtain ⟨k2, g2, h2⟩ := forN'_inv (S := List T_target_link) (body := fun k159 l155 =>
    (m_target_links_1 9).bind fun x182 =>
    (m_target_links_1 0).bind fun x197 =>
    (app 40 l155 [(⟨(⟨2, (↑k159 : Int)⟩ : T_target_Step), (↑k159 : Int), (↑(k159 + 1) : Int), x182⟩ : T_target_link), (⟨(⟨3, (↑k159 : Int)⟩ : T_target_Step), (↑(k159 + 1) : Int), (↑k159 : Int), x197⟩ : T_target_link)]).bind fun x219 =>
    some x219) (fun i ks => ks = knS l l.length ++ knB i) n 0 (knS l l.length) (by simp [knB])
    (by
      intro i ks _ hi hks
      subst hks
      refine ⟨_, ?_, rfl⟩
      rw [knB_succ]
      show ((app 40 (knS l l.length ++ knB i) [lnk 2 i i ↑(i + 1) 9, lnk 3 i ↑(i + 1) i 0]).bind fun x103 => some x103) = _
      rw [app_ok (by rw [List.length_append, knS_len, knB_len]; simp only [List.length_cons, List.length_nil]; omega), Option.bind_some, List.append_assoc])
  rw [g2, Option.bind_some, forR'_list (by omega), h2, Nat.zero_add]
  obtain ⟨k3, g3, h3⟩ := forN'_inv (S := List T_target_link) (body := fun k273 l269 =>
    (idx owed (↑k273 : Int)).bind fun x296 =>
    (m_target_links_1 (w64 (-x296))).bind fun x306 =>
    (app 40 l269 [(⟨(⟨4, (↑k273 : Int)⟩ : T_target_Step), (↑(k273 + 1) : Int), (↑k273 : Int), x306⟩ : T_target_link)]).bind fun x327 =>
    some x327) (fun i ks => ks = knS l l.length ++ knB n ++ knO owed i) owed.length 0 (knS l l.length ++ knB n) (by simp [knO])
    (by
      intro i ks _ hi hks
      subst hks
      have hlt : i < owed.length := by omega
      obtain ⟨o0, o1⟩ := hw _ (List.getElem_mem hlt)
      have e : gd owed i = owed[i] := by
        have := gd_at hlt
        rw [List.getElem?_eq_getElem hlt] at this
        exact (Option.some.inj this).symm
      rw [idx_nat, List.getElem?_eq_getElem hlt, Option.bind_some, w64_in (x := -owed[i]) (by omega) (by omega)]
      refine ⟨_, ?_, rfl⟩
      rw [knO_succ, e]
      show ((app 40 (knS l l.length ++ knB n ++ knO owed i) [lnk 4 i ↑(i + 1) i (-owed[i])]).bind fun x103 => some x103) = _
      rw [app_ok (by rw [List.length_append, List.length_append, knS_len, knB_len, knO_len]; simp only [List.length_cons, List.length_nil]; omega), Option.bind_some, List.append_assoc (knS l l.length ++ knB n)])
  rw [g3, Option.bind_some, h3, Nat.zero_add, known, List.append_assoc]

theorem mem_known {n : Nat} {l : List T_target_Sheet} {o : List Int} {k : T_target_link} : k ∈ known n l o ↔
    (∃ i, i < l.length ∧ (k = lnk 0 i (gd l i).From ((gd l i).To + 1) (gd l i).Loops.Hi ∨ k = lnk 1 i ((gd l i).To + 1) (gd l i).From (-(gd l i).Loops.Lo))) ∨
    (∃ b, b < n ∧ (k = lnk 2 (b : Nat) (b : Nat) ↑(b + 1) 9 ∨ k = lnk 3 (b : Nat) ↑(b + 1) (b : Nat) 0)) ∨ ∃ b, b < o.length ∧ k = lnk 4 (b : Nat) ↑(b + 1) (b : Nat) (-(gd o b)) := by
  unfold known knS knB knO
  rw [List.mem_append, List.mem_append, List.mem_flatMap, List.mem_flatMap, List.mem_map]
  simp only [List.mem_range, List.mem_cons, List.not_mem_nil, or_false]
  constructor
  · rintro (h | h | ⟨b, h1, h2⟩)
    · exact .inl h
    · exact .inr (.inl h)
    · exact .inr (.inr ⟨b, h1, h2.symm⟩)
  · rintro (h | h | ⟨b, h1, h2⟩)
    · exact .inl h
    · exact .inr (.inl h)
    · exact .inr (.inr ⟨b, h1, h2.symm⟩)

/-- Where a step leads, and what it counts. -/
def stp (n : Nat) (l : List T_target_Sheet) (o : List Int) (s : T_target_Step) : Option (Int × Int × Int) :=
  if s.Index < 0 then none else
  if s.Kind = 0 then (if s.Index < l.length then some ((gd l s.Index.toNat).From, (gd l s.Index.toNat).To + 1, (gd l s.Index.toNat).Loops.Hi) else none) else
  if s.Kind = 1 then (if s.Index < l.length then some ((gd l s.Index.toNat).To + 1, (gd l s.Index.toNat).From, -(gd l s.Index.toNat).Loops.Lo) else none) else
  if s.Kind = 2 then (if s.Index < n then some (s.Index, s.Index + 1, 9) else none) else
  if s.Kind = 3 then (if s.Index < n then some (s.Index + 1, s.Index, 0) else none) else
  if s.Kind = 4 then (if s.Index < o.length then some (s.Index + 1, s.Index, -(gd o s.Index.toNat)) else none) else none
/-- The link of a step. -/
def lk (n : Nat) (l : List T_target_Sheet) (o : List Int) (s : T_target_Step) : T_target_link := match stp n l o s with
  | some (f, t, w) => lnk s.Kind s.Index f t w
  | none => lnk 0 0 0 0 0

theorem stp_known {n : Nat} {l : List T_target_Sheet} {o : List Int} {k : T_target_link} (h : k ∈ known n l o) : stp n l o k.Step = some (k.from_, k.to_, wt k) ∧ lk n l o k.Step = k := by
  have key : ∀ (a b f t w : Int), stp n l o ⟨a, b⟩ = some (f, t, w) → stp n l o (lnk a b f t w).Step = some ((lnk a b f t w).from_, (lnk a b f t w).to_, wt (lnk a b f t w)) ∧ lk n l o (lnk a b f t w).Step = lnk a b f t w := by
    intro a b f t w e
    refine ⟨e, ?_⟩
    unfold lk
    have e' : stp n l o (lnk a b f t w).Step = some (f, t, w) := e
    rw [e']
    rfl
  rcases mem_known.1 h with ⟨i, h1, rfl | rfl⟩ | ⟨b, h1, rfl | rfl⟩ | ⟨b, h1, rfl⟩
  · refine key _ _ _ _ _ ?_
    unfold stp
    simp only
    rw [if_neg (by omega), if_pos trivial, if_pos (by omega), Int.toNat_natCast]
  · refine key _ _ _ _ _ ?_
    unfold stp
    simp only
    rw [if_neg (by omega), if_neg (by decide), if_pos trivial, if_pos (by omega), Int.toNat_natCast]
  · refine key _ _ _ _ _ ?_
    unfold stp
    simp only
    rw [if_neg (by omega), if_neg (by decide), if_neg (by decide), if_pos trivial, if_pos (by omega)]
    rfl
  · refine key _ _ _ _ _ ?_
    unfold stp
    simp only
    rw [if_neg (by omega), if_neg (by decide), if_neg (by decide), if_neg (by decide), if_pos trivial, if_pos (by omega)]
    rfl
  · refine key _ _ _ _ _ ?_
    unfold stp
    simp only
    rw [if_neg (by omega), if_neg (by decide), if_neg (by decide), if_neg (by decide), if_neg (by decide), if_pos trivial, if_pos (by omega), Int.toNat_natCast]
    rfl
theorem known_stp {n : Nat} {l : List T_target_Sheet} {o : List Int} {s : T_target_Step} (h : stp n l o s ≠ none) : lk n l o s ∈ known n l o ∧ (lk n l o s).Step = s := by
  obtain ⟨a, b⟩ := s
  unfold lk
  unfold stp at h ⊢
  simp only at h ⊢
  by_cases h0 : b < 0
  · rw [if_pos h0] at h; exact absurd rfl h
  obtain ⟨i, rfl⟩ : ∃ i : Nat, b = i := ⟨b.toNat, by omega⟩
  rw [if_neg h0] at h ⊢
  rw [Int.toNat_natCast] at h ⊢
  by_cases a0 : a = 0
  · rw [if_pos a0] at h ⊢
    subst a0
    by_cases hl : (i : Int) < l.length
    · rw [if_pos hl]
      exact ⟨mem_known.2 (.inl ⟨i, by omega, .inl rfl⟩), rfl⟩
    · rw [if_neg hl] at h; exact absurd rfl h
  rw [if_neg a0] at h ⊢
  by_cases a1 : a = 1
  · rw [if_pos a1] at h ⊢
    subst a1
    by_cases hl : (i : Int) < l.length
    · rw [if_pos hl]
      exact ⟨mem_known.2 (.inl ⟨i, by omega, .inr rfl⟩), rfl⟩
    · rw [if_neg hl] at h; exact absurd rfl h
  rw [if_neg a1] at h ⊢
  by_cases a2 : a = 2
  · rw [if_pos a2] at h ⊢
    subst a2
    by_cases hl : (i : Int) < n
    · rw [if_pos hl]
      exact ⟨mem_known.2 (.inr (.inl ⟨i, by omega, .inl rfl⟩)), rfl⟩
    · rw [if_neg hl] at h; exact absurd rfl h
  rw [if_neg a2] at h ⊢
  by_cases a3 : a = 3
  · rw [if_pos a3] at h ⊢
    subst a3
    by_cases hl : (i : Int) < n
    · rw [if_pos hl]
      exact ⟨mem_known.2 (.inr (.inl ⟨i, by omega, .inr rfl⟩)), rfl⟩
    · rw [if_neg hl] at h; exact absurd rfl h
  rw [if_neg a3] at h ⊢
  by_cases a4 : a = 4
  · rw [if_pos a4] at h ⊢
    subst a4
    by_cases hl : (i : Int) < o.length
    · rw [if_pos hl]
      exact ⟨mem_known.2 (.inr (.inr ⟨i, by omega, rfl⟩)), rfl⟩
    · rw [if_neg hl] at h; exact absurd rfl h
  rw [if_neg a4] at h
  exact absurd rfl h
theorem known_sub {n : Nat} {l : List T_target_Sheet} (o : List Int) {k : T_target_link} (h : k ∈ known n l []) : k ∈ known n l o ∧ k.Step.Kind ≠ 4 := by
  rcases mem_known.1 h with ⟨i, h1, h2⟩ | ⟨b, h1, h2⟩ | ⟨b, h1, _⟩
  · refine ⟨mem_known.2 (.inl ⟨i, h1, h2⟩), ?_⟩
    rcases h2 with rfl | rfl
    · exact (by decide : (0 : Int) ≠ 4)
    · exact (by decide : (1 : Int) ≠ 4)
  · refine ⟨mem_known.2 (.inr (.inl ⟨b, h1, h2⟩)), ?_⟩
    rcases h2 with rfl | rfl
    · exact (by decide : (2 : Int) ≠ 4)
    · exact (by decide : (3 : Int) ≠ 4)
  · simp at h1

theorem first_spec {α : Type} (p : α → Bool) : ∀ (l : List α) (k : Nat), (∃ i, ∃ h : i < l.length, first p l k = ((k + i : Nat) : Int) ∧ p l[i] = true) ∨ (first p l k = -1 ∧ ∀ a ∈ l, p a = false)
  | [], _ => .inr ⟨rfl, fun _ h => by cases h⟩
  | a :: l, k => by
    rw [first]
    by_cases h : p a = true
    · exact .inl ⟨0, by simp, by rw [if_pos h]; rfl, h⟩
    · rw [if_neg h]
      rcases first_spec p l (k + 1) with ⟨i, h1, h2, h3⟩ | ⟨h1, h2⟩
      · exact .inl ⟨i + 1, by simp; omega, by rw [h2]; omega, by simpa using h3⟩
      · refine .inr ⟨h1, fun b hb => ?_⟩
        rcases List.mem_cons.1 hb with rfl | hb
        · simpa using h
        · exact h2 b hb
/-- The link that is looked for. -/
theorem find_lk {n : Nat} {l : List T_target_Sheet} {o : List Int} (hn : n ≤ 8) (hl : l.length ≤ 20) (ho : o.length ≤ 8) (s : T_target_Step) :
    (stp n l o s = none ∧ m_slices_IndexFunc_target_link_target_link (known n l o) (fun x => m_target_RoundShows_1 x s) = some (-1)) ∨
    (stp n l o s ≠ none ∧ ∃ i : Nat, m_slices_IndexFunc_target_link_target_link (known n l o) (fun x => m_target_RoundShows_1 x s) = some (i : Int) ∧ (known n l o)[i]? = some (lk n l o s)) := by
  have hlen : (known n l o).length ≤ 1000 := by
    unfold known
    rw [List.length_append, List.length_append, knS_len, knB_len, knO_len]
    omega
  have e : m_slices_IndexFunc_target_link_target_link (known n l o) (fun x => m_target_RoundShows_1 x s) = some (first (fun k => decide (k.Step = s)) (known n l o) 0) := by
    unfold m_slices_IndexFunc_target_link_target_link
    have := loop_first (R := Int) (l := known n l o) (f := fun x => m_target_RoundShows_1 x s) (p := fun k => decide (k.Step = s)) (fun a _ => rfl) (by omega) id
    simp only [id] at this
    exact this
  rw [e]
  rcases first_spec (fun k : T_target_link => decide (k.Step = s)) (known n l o) 0 with ⟨i, h1, h2, h3⟩ | ⟨h1, h2⟩
  · right
    have h3 := of_decide_eq_true h3
    obtain ⟨a1, a2⟩ := stp_known (List.getElem_mem h1)
    rw [h3] at a1 a2
    refine ⟨by rw [a1]; simp, i, by rw [h2, Nat.zero_add], ?_⟩
    rw [List.getElem?_eq_getElem h1, a2]
  · left
    refine ⟨?_, by rw [h1]⟩
    rcases Classical.em (stp n l o s = none) with h | h
    · exact h
    · obtain ⟨a1, a2⟩ := known_stp h
      have := h2 _ a1
      simp [a2] at this
end Go.Proofs.Ytaoaelhmiggepaa
