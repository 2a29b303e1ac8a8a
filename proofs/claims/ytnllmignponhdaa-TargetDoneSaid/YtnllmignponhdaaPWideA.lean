/- What spans of loops mean: the greatest and least differences that sheets allow. -/
import Derived.Test.YtnllmignponhdaaPSheetK
namespace Go.Proofs.Ytnllmignponhdaa
open Go.KL

/-- The greatest difference that sheets allow. -/
structure Top (n : Nat) (l : List T_target_Sheet) (a b : Nat) (m : Int) : Prop where
  le : ∀ x, Fit n l [] x → x b - x a ≤ m
  at_ : ∃ x, Fit n l [] x ∧ x b - x a = m
theorem Top.uniq {n : Nat} {l l' : List T_target_Sheet} {a b a' b' : Nat} {m m' : Int} (h : Top n l a b m) (h' : Top n l' a' b' m') (g : ∀ x, Fit n l [] x → ∃ x', Fit n l' [] x' ∧ x' b' - x' a' = x b - x a) (g' : ∀ x, Fit n l' [] x → ∃ x', Fit n l [] x' ∧ x' b - x' a = x b' - x a') : m = m' := by
  obtain ⟨x, hx, ex⟩ := h.at_
  obtain ⟨y, hy, ey⟩ := h'.at_
  obtain ⟨x', hx', ex'⟩ := g x hx
  obtain ⟨y', hy', ey'⟩ := g' y hy
  have := h'.le x' hx'
  have := h.le y' hy'
  omega
theorem Top.mono {n : Nat} {l l' : List T_target_Sheet} {a b : Nat} {m m' : Int} (h : Top n l a b m) (h' : Top n l' a b m') (g : ∀ x, Fit n l [] x → Fit n l' [] x) : m ≤ m' := by
  obtain ⟨x, hx, ex⟩ := h.at_
  have := h'.le x (g x hx)
  omega

/-- What 'target.Skied' returns where sheets agree. -/
structure Spans (n : Nat) (l : List T_target_Sheet) (S : List T_api_Span) : Prop where
  len : S.length = n
  hi : ∀ k, k < n → Top n l k (k + 1) (gd S k).Hi
  lo : ∀ k, k < n → Top n l (k + 1) k (-(gd S k).Lo)
theorem skied_spans {n : Nat} {l : List T_target_Sheet} (h : shErr n l = 0) (hx : ∃ x, Fit n l [] x) : ∃ S, m_target_Skied n l = some (S, 0) ∧ Spans n l S := by
  obtain ⟨h1, h2, h3, _⟩ := shErr_ok h
  obtain ⟨y, ok, ks, c1, c2, c3, c4⟩ := counted_good h
  have hs := skied_good (by omega) c1 c2
  cases ok with
  | false =>
    obtain ⟨x, F⟩ := hx
    exact (c2.none _ ((c4 _).2 F) (F.far (by omega))).elim
  | true =>
    simp only [if_true] at hs
    have hlen : ((List.range n).map fun k => (⟨-(mx y (k + 1) k), mx y k (k + 1)⟩ : T_api_Span)).length = n := by simp
    have hg : ∀ k, k < n → gd ((List.range n).map fun k => (⟨-(mx y (k + 1) k), mx y k (k + 1)⟩ : T_api_Span)) k = ⟨-(mx y (k + 1) k), mx y k (k + 1)⟩ := fun k hk => by
      have := gd_at (xs := (List.range n).map fun k => (⟨-(mx y (k + 1) k), mx y k (k + 1)⟩ : T_api_Span)) (k := k) (by rw [hlen]; exact hk)
      rw [List.getElem?_map, List.getElem?_range hk] at this
      exact (Option.some.inj this).symm
    have top : ∀ a b, a ≤ n → b ≤ n → Top n l a b (mx y a b) := fun a b ha hb =>
      ⟨fun x F => c2.fe _ ((c4 _).2 F) (F.far (by omega)) a b ha hb, _, (c4 _).1 (c2.pot c3 ha), by have := c2.dg rfl a ha; show mx y a b - mx y a a = _; omega⟩
    refine ⟨_, hs, hlen, fun k hk => ?_, fun k hk => ?_⟩
    · rw [hg k hk]; exact top k (k + 1) (by omega) (by omega)
    · rw [hg k hk]
      have := top (k + 1) k (by omega) (by omega)
      rwa [show -(⟨-(mx y (k + 1) k), mx y k (k + 1)⟩ : T_api_Span).Lo = mx y (k + 1) k from by show -(-(mx y (k + 1) k)) = _; omega]

theorem allInt_eq {l : List Int} {f : Int → Option Bool} {p : Int → Bool} (hf : ∀ a, f a = some (p a)) (hn : l.length ≤ 9223372036854775807) : m_target_all_int l f = some (l.all p) := by
  unfold m_target_all_int m_slices_ContainsFunc_int_int m_slices_IndexFunc_int_int m_target_all_int_1
  have := loop_first (R := Int) (l := l) (f := fun x => (f x).bind fun x5 => some (!x5)) (p := fun a => !p a) (fun a _ => by rw [hf]; rfl) hn id
  simp only [id] at this
  rw [this]
  simp only [Option.bind_some, first_any]
  congr 1
  clear this hn
  induction l with
  | nil => rfl
  | cons a l ih => rw [List.any_cons, List.all_cons, ← ih]; cases p a <;> simp

/-- What 'target.Few' returns. -/
theorem few_eq {n : Nat} {l : List T_target_Sheet} {owed : List Int} (h : shErr n l = 0) (ho : owed.length = n) (hw : ∀ k ∈ owed, 0 ≤ k ∧ k ≤ 5) : ∃ b, m_target_Few owed l = some (b, 0) ∧ (b = false ↔ ∃ x, Fit n l owed x) := by
  obtain ⟨h1, h2, h3, h4'⟩ := shErr_ok h
  have h4 : ∀ s ∈ l, okSheet n s := fun s hs => by have := h4' s hs; rwa [Int.toNat_natCast] at this
  have hd : m_target_due owed l = some 0 := by
    unfold m_target_due
    rw [ho, within_is, Option.bind_some, if_pos (decide_eq_true ⟨h1, h2⟩), allInt_eq (p := fun k => decide (0 ≤ k ∧ k ≤ 5)) (fun a => by unfold m_target_due_1; rw [within_is]; rfl) (by omega), Option.bind_some,
      if_pos (List.all_eq_true.2 fun k hk => decide_eq_true (hw k hk)), check_eq, h]
    rfl
  obtain ⟨ks, g1, g2, g3, g4⟩ := links_eq (n := n) (by omega) h3 h4 (owed := owed) (by omega) hw
  obtain ⟨y, ok, d1, d2⟩ := dist_eq (n := n) (by omega) g2 g3
  refine ⟨!ok, ?_, ?_⟩
  · unfold m_target_Few
    rw [hd, Option.bind_some, if_pos rfl, ho, g1, Option.bind_some, d1]
    rfl
  · cases ok with
    | true => exact ⟨fun _ => ⟨_, (g4 _).1 (d2.pot g2 (a := 0) (by omega))⟩, fun _ => rfl⟩
    | false => exact ⟨fun e => (by cases e), fun ⟨x, F⟩ => (d2.none _ ((g4 _).2 F) (F.far (by omega))).elim⟩

/-- A sheet that is told backwards. -/
def turn (n : Nat) (s : T_target_Sheet) : T_target_Sheet := ⟨(n : Int) - 1 - s.To, (n : Int) - 1 - s.From, s.Loops⟩
theorem turn_ok {n : Nat} {s : T_target_Sheet} (h : okSheet n s) : okSheet n (turn n s) := by
  obtain ⟨a, b, c, d⟩ := h
  exact ⟨by show 0 ≤ (n : Int) - 1 - s.To; omega, by show (n : Int) - 1 - s.To ≤ (n : Int) - 1 - s.From; omega, by show (n : Int) - 1 - s.From < n; omega, d⟩
theorem fit_turn {n : Nat} {l : List T_target_Sheet} (hs : ∀ s ∈ l, okSheet n s) {owed : List Int} (ho : owed = [] ∨ owed.length = n) {x : Nat → Int} (F : Fit n l owed x) : Fit n (l.map (turn n)) owed.reverse (fun b => -(x (n - b))) := by
  refine ⟨fun s h => ?_, fun b hb => ?_, fun b k hk => ?_⟩
  · obtain ⟨s, hm, rfl⟩ := List.mem_map.1 h
    obtain ⟨a, b, c, _⟩ := hs s hm
    have := F.sh s hm
    have e1 : ((turn n s).To + 1).toNat = n - s.From.toNat := by show ((n : Int) - 1 - s.From + 1).toNat = _; omega
    have e2 : (turn n s).From.toNat = n - (s.To + 1).toNat := by show ((n : Int) - 1 - s.To).toNat = _; omega
    rw [e1, e2]
    have e3 : n - (n - s.From.toNat) = s.From.toNat := by omega
    have e4 : n - (n - (s.To + 1).toNat) = (s.To + 1).toNat := by omega
    simp only [e3, e4]
    show s.Loops.Lo ≤ _ ∧ _ ≤ s.Loops.Hi
    omega
  · have := F.bo (n - (b + 1)) (by omega)
    rw [show n - (b + 1) + 1 = n - b by omega] at this
    omega
  · have hlt := (List.getElem?_eq_some_iff.1 hk).1
    rw [List.length_reverse] at hlt
    rcases ho with rfl | ho
    · simp at hlt
    · rw [List.getElem?_reverse hlt] at hk
      have := F.ow _ k hk
      rw [ho, show n - 1 - b + 1 = n - b by omega, show n - 1 - b = n - (b + 1) by omega] at this
      omega
theorem turn_turn {n : Nat} (l : List T_target_Sheet) : (l.map (turn n)).map (turn n) = l := by
  rw [List.map_map]
  have : turn n ∘ turn n = id := by
    funext s
    obtain ⟨a, b, c⟩ := s
    simp only [Function.comp, turn, id]
    congr 1 <;> omega
  rw [this, List.map_id]
theorem fit_turned {n : Nat} {l : List T_target_Sheet} (hs : ∀ s ∈ l, okSheet n s) {owed : List Int} (ho : owed = [] ∨ owed.length = n) {x : Nat → Int} (F : Fit n (l.map (turn n)) owed.reverse x) : Fit n l owed (fun b => -(x (n - b))) := by
  have := fit_turn (l := l.map (turn n)) (owed := owed.reverse) (fun s h => by obtain ⟨s, hm, rfl⟩ := List.mem_map.1 h; exact turn_ok (hs s hm)) (by rcases ho with rfl | ho; exact .inl rfl; exact .inr (by rw [List.length_reverse, ho])) F
  rwa [turn_turn, List.reverse_reverse] at this

/-- Sheets that are wider, one by one. -/
def Loose (l l' : List T_target_Sheet) : Prop := l'.length = l.length ∧ ∀ i, i < l.length → (gd l' i).From = (gd l i).From ∧ (gd l' i).To = (gd l i).To ∧ 0 ≤ (gd l' i).Loops.Lo ∧ (gd l' i).Loops.Lo ≤ (gd l i).Loops.Lo ∧ (gd l i).Loops.Hi ≤ (gd l' i).Loops.Hi ∧ (gd l' i).Loops.Hi ≤ 72
theorem Loose.fit {n : Nat} {l l' : List T_target_Sheet} (h : Loose l l') {owed : List Int} {x : Nat → Int} (F : Fit n l owed x) : Fit n l' owed x := by
  refine ⟨fun s hs => ?_, F.bo, F.ow⟩
  obtain ⟨i, hi, rfl⟩ := List.getElem_of_mem hs
  have hi' : i < l.length := by have := h.1; omega
  have e : gd l' i = l'[i] := by
    have := gd_at hi
    rw [List.getElem?_eq_getElem hi] at this
    exact (Option.some.inj this).symm
  have := F.sh (gd l i) (List.mem_of_getElem? (gd_at hi'))
  obtain ⟨a, b, _, c, d, _⟩ := h.2 i hi'
  rw [← e, a, b]
  omega
theorem Loose.ok {n : Nat} {l l' : List T_target_Sheet} (h : Loose l l') (hs : ∀ s ∈ l, okSheet n s) : ∀ s ∈ l', okSheet n s := by
  intro s hm
  obtain ⟨i, hi, rfl⟩ := List.getElem_of_mem hm
  have hi' : i < l.length := by have := h.1; omega
  have e : gd l' i = l'[i] := by
    have := gd_at hi
    rw [List.getElem?_eq_getElem hi] at this
    exact (Option.some.inj this).symm
  obtain ⟨a0, a1, a2, a3, a4, a5⟩ := hs (gd l i) (List.mem_of_getElem? (gd_at hi'))
  obtain ⟨a, b, c, d, e1, f⟩ := h.2 i hi'
  rw [← e]
  exact ⟨by omega, by omega, by omega, by omega, by omega, by omega⟩
theorem shErr_zero {n : Nat} {l : List T_target_Sheet} (h1 : 1 ≤ n) (h2 : n ≤ 8) (hl : l.length ≤ 20) (hs : ∀ s ∈ l, okSheet n s) : shErr n l = 0 := by
  unfold shErr
  have a1 : l.all (shPlace n) = true := List.all_eq_true.2 fun s h => decide_eq_true ⟨(hs s h).1, (hs s h).2.1, (hs s h).2.2.1⟩
  have a2 : l.all shRange = true := List.all_eq_true.2 fun s h => decide_eq_true (hs s h).2.2.2
  rw [if_neg (by omega), if_pos a1, if_pos a2]
end Go.Proofs.Ytnllmignponhdaa
