/- Sheets that are checked, and the links that they give, in plain Lean. -/
import Derived.Test.YtaoaelhmiggepaaPDistB
namespace Go.Proofs.Ytaoaelhmiggepaa
open Go.KL

theorem within_is (x a b : Int) : m_target_within x a b = some (decide (a ≤ x ∧ x ≤ b)) := by
  unfold m_target_within
  by_cases h : a ≤ x <;> simp [h]
def shPlace (n : Int) (s : T_target_Sheet) : Bool := decide (0 ≤ s.From ∧ s.From ≤ s.To ∧ s.To < n)
def shRange (s : T_target_Sheet) : Bool := decide (0 ≤ s.Loops.Lo ∧ s.Loops.Lo ≤ s.Loops.Hi ∧ s.Loops.Hi ≤ 72)
/-- The error of sheets. -/
def shErr (n : Int) (l : List T_target_Sheet) : Int := if n < 1 ∨ 8 < n ∨ 20 < (l.length : Int) then 2 else if l.all (shPlace n) = true then if l.all shRange = true then 0 else 3 else 1

theorem allSheet_eq {l : List T_target_Sheet} {f : T_target_Sheet → Option Bool} {p : T_target_Sheet → Bool} (hf : ∀ a, f a = some (p a)) (hn : l.length ≤ 9223372036854775807) : m_target_all_target_Sheet l f = some (l.all p) := by
  unfold m_target_all_target_Sheet m_slices_ContainsFunc_target_Sheet_target_Sheet m_slices_IndexFunc_target_Sheet_target_Sheet m_target_all_target_Sheet_1
  have := loop_first (R := Int) (l := l) (f := fun x => (f x).bind fun x5 => some (!x5)) (p := fun a => !p a) (fun a _ => by rw [hf]; rfl) hn id
  simp only [id] at this
  rw [this]
  simp only [Option.bind_some, first_any]
  congr 1
  clear this hn
  induction l with
  | nil => rfl
  | cons a l ih => rw [List.any_cons, List.all_cons, ← ih]; cases p a <;> simp
theorem check1_eq (s : T_target_Sheet) (n : Int) : m_target_CheckSheets_1 s n = some (shPlace n s) := by
  unfold m_target_CheckSheets_1 shPlace
  rw [within_is, Option.bind_some]
  by_cases h : 0 ≤ s.From ∧ s.From ≤ s.To
  · simp [h]
  · rw [if_neg (by simpa using h)]
    congr 1
    symm
    exact decide_eq_false (fun g => h ⟨g.1, g.2.1⟩)
theorem check2_eq (s : T_target_Sheet) : m_target_CheckSheets_2 s = some (shRange s) := by
  unfold m_target_CheckSheets_2 shRange
  rw [within_is, Option.bind_some]
  by_cases h : 0 ≤ s.Loops.Lo ∧ s.Loops.Lo ≤ s.Loops.Hi
  · simp [h]
  · rw [if_neg (by simpa using h)]
    congr 1
    symm
    exact decide_eq_false (fun g => h ⟨g.1, g.2.1⟩)
theorem check_eq (n : Int) (l : List T_target_Sheet) : m_target_CheckSheets n l = some (shErr n l) := by
  unfold m_target_CheckSheets shErr
  rw [within_is, Option.bind_some]
  by_cases h : 1 ≤ n ∧ n ≤ 8
  · rw [if_pos (by simpa using h)]
    by_cases h2 : 20 < (l.length : Int)
    · rw [if_pos h2, if_pos (by omega)]
    · rw [if_neg h2, if_neg (by omega), allSheet_eq (fun a => check1_eq a n) (by omega), Option.bind_some]
      by_cases h3 : l.all (shPlace n) = true
      · rw [if_pos h3, if_pos h3, allSheet_eq check2_eq (by omega), Option.bind_some]
        by_cases h4 : l.all shRange = true
        · rw [if_pos h4, if_pos h4]
        · rw [if_neg h4, if_neg h4]
      · rw [if_neg h3, if_neg h3]
  · rw [if_neg (by simpa using h), if_pos (by omega)]

/-- What links ask. -/
def lnk (a b : Int) (f t w : Int) : T_target_link := ⟨⟨a, b⟩, f, t, fun _ => some w⟩
theorem feas_nil (x : Nat → Int) : Feas [] x := fun _ h => by cases h
theorem feas_app (a b : List T_target_link) (x : Nat → Int) : Feas (a ++ b) x ↔ Feas a x ∧ Feas b x := by
  refine ⟨fun h => ⟨fun k hk => h k (List.mem_append_left _ hk), fun k hk => h k (List.mem_append_right _ hk)⟩, fun h k hk => ?_⟩
  rcases List.mem_append.1 hk with hk | hk
  · exact h.1 k hk
  · exact h.2 k hk
theorem feas_one (a b f t w : Int) (x : Nat → Int) : Feas [lnk a b f t w] x ↔ x t.toNat - x f.toNat ≤ w := by
  refine ⟨fun h => h _ (List.mem_singleton.2 rfl) w rfl, fun h k hk v hv => ?_⟩
  have := List.mem_singleton.1 hk
  subst this
  cases hv
  exact h
theorem feas_two (a b f t w a' b' f' t' w' : Int) (x : Nat → Int) : Feas [lnk a b f t w, lnk a' b' f' t' w'] x ↔ x t.toNat - x f.toNat ≤ w ∧ x t'.toNat - x f'.toNat ≤ w' := by
  rw [← feas_one a b f t w x, ← feas_one a' b' f' t' w' x, ← feas_app]
  rfl
theorem lk_mk {n : Nat} {a b f t w : Int} (h0 : 0 ≤ f) (h1 : f ≤ n) (h2 : 0 ≤ t) (h3 : t ≤ n) (h4 : -100 ≤ w) (h5 : w ≤ 100) : lkOk n (lnk a b f t w) := ⟨h0, h1, h2, h3, w, rfl, h4, h5⟩

/-- Numbers at places that sheets, and what is owed, allow. -/
structure Fit (n : Nat) (l : List T_target_Sheet) (owed : List Int) (x : Nat → Int) : Prop where
  sh : ∀ s ∈ l, s.Loops.Lo ≤ x (s.To + 1).toNat - x s.From.toNat ∧ x (s.To + 1).toNat - x s.From.toNat ≤ s.Loops.Hi
  bo : ∀ b, b < n → 0 ≤ x (b + 1) - x b ∧ x (b + 1) - x b ≤ 9
  ow : ∀ b k, owed[b]? = some k → k ≤ x (b + 1) - x b

def okSheet (n : Nat) (s : T_target_Sheet) : Prop := 0 ≤ s.From ∧ s.From ≤ s.To ∧ s.To < n ∧ 0 ≤ s.Loops.Lo ∧ s.Loops.Lo ≤ s.Loops.Hi ∧ s.Loops.Hi ≤ 72

theorem links_eq {n : Nat} (hn : n ≤ 8) {l : List T_target_Sheet} (hl : l.length ≤ 20) (hs : ∀ s ∈ l, okSheet n s) {owed : List Int} (ho : owed.length ≤ n) (hw : ∀ k ∈ owed, 0 ≤ k ∧ k ≤ 5) :
    ∃ ks, m_target_links (n : Int) l owed = some ks ∧ (∀ k ∈ ks, lkOk n k) ∧ ks.length ≤ 1000 ∧ ∀ x, Feas ks x ↔ Fit n l owed x := by
  unfold m_target_links
  rw [forR'_list (by omega)]
  obtain ⟨k1, g1, h1⟩ := forN'_inv (S := List T_target_link) (body := fun k22 l17 =>
    (idx l (↑k22 : Int)).bind fun x49 =>
    (m_target_links_1 x49.Loops.Hi).bind fun x66 =>
    (m_target_links_1 (w64 (-x49.Loops.Lo))).bind fun x81 =>
    (app 40 l17 [(⟨(⟨0, (↑k22 : Int)⟩ : T_target_Step), x49.From, w64 (x49.To + 1), x66⟩ : T_target_link), (⟨(⟨1, (↑k22 : Int)⟩ : T_target_Step), w64 (x49.To + 1), x49.From, x81⟩ : T_target_link)]).bind fun x103 =>
    some x103) (fun i ks => ks.length = 2 * i ∧ (∀ k ∈ ks, lkOk n k) ∧ ∀ x, Feas ks x ↔ ∀ s ∈ l.take i, s.Loops.Lo ≤ x (s.To + 1).toNat - x s.From.toNat ∧ x (s.To + 1).toNat - x s.From.toNat ≤ s.Loops.Hi) l.length 0 []
    ⟨rfl, fun _ h => (by cases h), fun x => ⟨fun _ s h => by simp at h, fun _ => feas_nil x⟩⟩
    (by
      intro i ks _ hi ⟨c1, c2, c3⟩
      have hlt : i < l.length := by omega
      obtain ⟨s0, s1, s2, s3, s4, s5⟩ := hs _ (List.getElem_mem hlt)
      rw [idx_nat, List.getElem?_eq_getElem hlt, Option.bind_some]
      have w1 : w64 (l[i].To + 1) = l[i].To + 1 := w64_in (by omega) (by omega)
      have w2 : w64 (-l[i].Loops.Lo) = -l[i].Loops.Lo := w64_in (by omega) (by omega)
      rw [w1, w2]
      refine ⟨ks ++ [lnk 0 i l[i].From (l[i].To + 1) l[i].Loops.Hi, lnk 1 i (l[i].To + 1) l[i].From (-l[i].Loops.Lo)], ?_, ?_, ?_, ?_⟩
      · show ((app 40 ks [lnk 0 i l[i].From (l[i].To + 1) l[i].Loops.Hi, lnk 1 i (l[i].To + 1) l[i].From (-l[i].Loops.Lo)]).bind fun x103 => some x103) = _
        rw [app_ok (by simp only [List.length_cons, List.length_nil]; omega)]
        rfl
      · simp only [List.length_append, List.length_cons, List.length_nil]; omega
      · intro k hk
        rcases List.mem_append.1 hk with hk | hk
        · exact c2 k hk
        · simp only [List.mem_cons, List.not_mem_nil, or_false] at hk
          rcases hk with rfl | rfl
          · exact lk_mk (by omega) (by omega) (by omega) (by omega) (by omega) (by omega)
          · exact lk_mk (by omega) (by omega) (by omega) (by omega) (by omega) (by omega)
      · intro x
        have e : l.take (i + 1) = l.take i ++ [l[i]] := by rw [List.take_add_one, List.getElem?_eq_getElem hlt]; rfl
        rw [feas_app, feas_two, c3 x, e]
        refine ⟨fun ⟨a, b, c⟩ s hs' => ?_, fun h => ⟨fun s hs' => h s (List.mem_append_left _ hs'), ?_, ?_⟩⟩
        · rcases List.mem_append.1 hs' with hs' | hs'
          · exact a s hs'
          · have := List.mem_singleton.1 hs'
            subst this
            omega
        · exact (h l[i] (List.mem_append_right _ (List.mem_singleton.2 rfl))).2
        · have := (h l[i] (List.mem_append_right _ (List.mem_singleton.2 rfl))).1
          omega)
  rw [g1, Option.bind_some, forR'_list (by omega)]
  have hlt : l.take (0 + l.length) = l := by rw [Nat.zero_add, List.take_length]
  rw [hlt] at h1
  obtain ⟨c1, c2, c3⟩ := h1
  obtain ⟨k2, g2, h2⟩ := forN'_inv (S := List T_target_link) (body := fun k159 l155 =>
    (m_target_links_1 9).bind fun x182 =>
    (m_target_links_1 0).bind fun x197 =>
    (app 40 l155 [(⟨(⟨2, (↑k159 : Int)⟩ : T_target_Step), (↑k159 : Int), (↑(k159 + 1) : Int), x182⟩ : T_target_link), (⟨(⟨3, (↑k159 : Int)⟩ : T_target_Step), (↑(k159 + 1) : Int), (↑k159 : Int), x197⟩ : T_target_link)]).bind fun x219 =>
    some x219) (fun i ks => ks.length = 2 * l.length + 2 * i ∧ (∀ k ∈ ks, lkOk n k) ∧ ∀ x, Feas ks x ↔ Feas k1 x ∧ ∀ b, b < i → 0 ≤ x (b + 1) - x b ∧ x (b + 1) - x b ≤ 9) n 0 k1
    ⟨by omega, c2, fun x => ⟨fun h => ⟨h, fun b hb => by omega⟩, fun h => h.1⟩⟩
    (by
      intro i ks _ hi ⟨d1, d2, d3⟩
      refine ⟨ks ++ [lnk 2 i i ↑(i + 1) 9, lnk 3 i ↑(i + 1) i 0], ?_, ?_, ?_, ?_⟩
      · show ((app 40 ks [lnk 2 i i ↑(i + 1) 9, lnk 3 i ↑(i + 1) i 0]).bind fun x103 => some x103) = _
        rw [app_ok (by simp only [List.length_cons, List.length_nil]; omega)]
        rfl
      · simp only [List.length_append, List.length_cons, List.length_nil]; omega
      · intro k hk
        rcases List.mem_append.1 hk with hk | hk
        · exact d2 k hk
        · simp only [List.mem_cons, List.not_mem_nil, or_false] at hk
          rcases hk with rfl | rfl
          · exact lk_mk (by omega) (by omega) (by omega) (by omega) (by omega) (by omega)
          · exact lk_mk (by omega) (by omega) (by omega) (by omega) (by omega) (by omega)
      · intro x
        rw [feas_app, feas_two, d3 x, Int.toNat_natCast, Int.toNat_natCast]
        refine ⟨fun ⟨⟨a, b⟩, c, d⟩ => ⟨a, fun j hj => ?_⟩, fun h => ⟨⟨h.1, fun b hb => h.2 b (by omega)⟩, (h.2 i (by omega)).2, ?_⟩⟩
        · by_cases e : j = i
          · subst e; omega
          · exact b j (by omega)
        · have := (h.2 i (by omega)).1
          omega)
  rw [g2, Option.bind_some, forR'_list (by omega)]
  obtain ⟨d1, d2, d3⟩ := h2
  obtain ⟨k3, g3, h3⟩ := forN'_inv (S := List T_target_link) (body := fun k273 l269 =>
    (idx owed (↑k273 : Int)).bind fun x296 =>
    (m_target_links_1 (w64 (-x296))).bind fun x306 =>
    (app 40 l269 [(⟨(⟨4, (↑k273 : Int)⟩ : T_target_Step), (↑(k273 + 1) : Int), (↑k273 : Int), x306⟩ : T_target_link)]).bind fun x327 =>
    some x327) (fun i ks => ks.length = 2 * l.length + 2 * n + i ∧ (∀ k ∈ ks, lkOk n k) ∧ ∀ x, Feas ks x ↔ Feas k2 x ∧ ∀ b k, b < i → owed[b]? = some k → k ≤ x (b + 1) - x b) owed.length 0 k2
    ⟨by omega, d2, fun x => ⟨fun h => ⟨h, fun b k hb => by omega⟩, fun h => h.1⟩⟩
    (by
      intro i ks _ hi ⟨e1, e2, e3⟩
      have hlt : i < owed.length := by omega
      obtain ⟨o0, o1⟩ := hw _ (List.getElem_mem hlt)
      rw [idx_nat, List.getElem?_eq_getElem hlt, Option.bind_some, w64_in (x := -owed[i]) (by omega) (by omega)]
      refine ⟨ks ++ [lnk 4 i ↑(i + 1) i (-owed[i])], ?_, ?_, ?_, ?_⟩
      · show ((app 40 ks [lnk 4 i ↑(i + 1) i (-owed[i])]).bind fun x103 => some x103) = _
        rw [app_ok (by simp only [List.length_cons, List.length_nil]; omega)]
        rfl
      · simp only [List.length_append, List.length_cons, List.length_nil]; omega
      · intro k hk
        rcases List.mem_append.1 hk with hk | hk
        · exact e2 k hk
        · have := List.mem_singleton.1 hk
          subst this
          exact lk_mk (by omega) (by omega) (by omega) (by omega) (by omega) (by omega)
      · intro x
        rw [feas_app, feas_one, e3 x, Int.toNat_natCast, Int.toNat_natCast]
        refine ⟨fun ⟨⟨a, b⟩, c⟩ => ⟨a, fun j k hj hk => ?_⟩, fun h => ⟨⟨h.1, fun b k hb hk => h.2 b k (by omega) hk⟩, ?_⟩⟩
        · by_cases e : j = i
          · subst e
            rw [List.getElem?_eq_getElem hlt] at hk
            cases hk
            omega
          · exact b j k (by omega) hk
        · have := h.2 i _ (by omega) (List.getElem?_eq_getElem hlt)
          omega)
  rw [g3, Option.bind_some]
  obtain ⟨e1, e2, e3⟩ := h3
  refine ⟨k3, rfl, e2, by omega, fun x => ?_⟩
  rw [e3, d3, c3]
  refine ⟨fun ⟨⟨a, b⟩, c⟩ => ⟨a, fun j hj => b j (by omega), fun j k hk => c j k (by have := (List.getElem?_eq_some_iff.1 hk).1; omega) hk⟩, fun h => ⟨⟨h.sh, fun j hj => h.bo j (by omega)⟩, fun j k _ hk => h.ow j k hk⟩⟩
end Go.Proofs.Ytaoaelhmiggepaa
