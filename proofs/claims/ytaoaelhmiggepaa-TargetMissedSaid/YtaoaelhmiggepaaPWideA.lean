/- What spans of loops mean: the greatest and least differences that sheets allow. -/
import Derived.Test.YtaoaelhmiggepaaPSheetK
namespace Go.Proofs.Ytaoaelhmiggepaa
open Go.KL

/-- The greatest difference that sheets allow. -/
structure Top (n : Nat) (l : List T_target_Sheet) (a b : Nat) (m : Int) : Prop where
  le : ∀ x, Fit n l [] x → x b - x a ≤ m
  at_ : ∃ x, Fit n l [] x ∧ x b - x a = m
theorem Top.mono {n : Nat} {l l' : List T_target_Sheet} {a b : Nat} {m m' : Int} (h : Top n l a b m) (h' : Top n l' a b m') (g : ∀ x, Fit n l [] x → Fit n l' [] x) : m ≤ m' := by
  obtain ⟨x, hx, ex⟩ := h.at_
  have := h'.le x (g x hx)
  omega

/-- What 'target.Skied' returns where sheets agree. -/
structure Spans (n : Nat) (l : List T_target_Sheet) (S : List T_api_Span) : Prop where
  len : S.length = n
  hi : ∀ k, k < n → Top n l k (k + 1) (gd S k).Hi
  lo : ∀ k, k < n → Top n l (k + 1) k (-(gd S k).Lo)
theorem allInt_eq {l : List Int} {f : Int → Option Bool} {p : Int → Bool} (hf : ∀ a, f a = some (p a)) (hn : l.length ≤ 9223372036854775807) : m_target_all_int l f = some (l.all p) := by
  unfold m_target_all_int m_slices_ContainsFunc_int_int m_slices_IndexFunc_int_int m_target_all_int_1
  have := loop_first (R := Int) (l := l) (f := fun x => (f x).bind fun x5 => some (!x5)) (p := fun a => !p a) (fun a _ => by rw [hf]; rfl) hn id
  simp only [id] at this
  rw [this]
  simp only [Option.bind_some, first_any]
  congr 1
  clear this hn
  induction l with
  | nil => rfl
  | cons a l ih => rw [List.any_cons, List.all_cons, ← ih]; cases p a <;> simp

/-- What 'target.Few' returns. -/
theorem few_eq {n : Nat} {l : List T_target_Sheet} {owed : List Int} (h : shErr n l = 0) (ho : owed.length = n) (hw : ∀ k ∈ owed, 0 ≤ k ∧ k ≤ 5) : ∃ b, m_target_Few owed l = some (b, 0) ∧ (b = false ↔ ∃ x, Fit n l owed x) := by
  obtain ⟨h1, h2, h3, h4'⟩ := shErr_ok h
  have h4 : ∀ s ∈ l, okSheet n s := fun s hs => by have := h4' s hs; rwa [Int.toNat_natCast] at this
  have hd : m_target_due owed l = some 0 := by
    unfold m_target_due
    rw [ho, within_is, Option.bind_some, if_pos (decide_eq_true ⟨h1, h2⟩), allInt_eq (p := fun k => decide (0 ≤ k ∧ k ≤ 5)) (fun a => by unfold m_target_due_1; rw [within_is]; rfl) (by omega), Option.bind_some,
      if_pos (List.all_eq_true.2 fun k hk => decide_eq_true (hw k hk)), check_eq, h]
    rfl
  obtain ⟨ks, g1, g2, g3, g4⟩ := links_eq (n := n) (by omega) h3 h4 (owed := owed) (by omega) hw
  obtain ⟨y, ok, d1, d2⟩ := dist_eq (n := n) (by omega) g2 g3
  refine ⟨!ok, ?_, ?_⟩
  · unfold m_target_Few
    rw [hd, Option.bind_some, if_pos rfl, ho, g1, Option.bind_some, d1]
    rfl
  · cases ok with
    | true => exact ⟨fun _ => ⟨_, (g4 _).1 (d2.pot g2 (a := 0) (by omega))⟩, fun _ => rfl⟩
    | false => exact ⟨fun e => (by cases e), fun ⟨x, F⟩ => (d2.none _ ((g4 _).2 F) (F.far (by omega))).elim⟩

/-- A sheet that is told backwards. -/
def turn (n : Nat) (s : T_target_Sheet) : T_target_Sheet := ⟨(n : Int) - 1 - s.To, (n : Int) - 1 - s.From, s.Loops⟩
/-- Sheets that are wider, one by one. -/
def Loose (l l' : List T_target_Sheet) : Prop := l'.length = l.length ∧ ∀ i, i < l.length → (gd l' i).From = (gd l i).From ∧ (gd l' i).To = (gd l i).To ∧ 0 ≤ (gd l' i).Loops.Lo ∧ (gd l' i).Loops.Lo ≤ (gd l i).Loops.Lo ∧ (gd l i).Loops.Hi ≤ (gd l' i).Loops.Hi ∧ (gd l' i).Loops.Hi ≤ 72
theorem Loose.ok {n : Nat} {l l' : List T_target_Sheet} (h : Loose l l') (hs : ∀ s ∈ l, okSheet n s) : ∀ s ∈ l', okSheet n s := by
  intro s hm
  obtain ⟨i, hi, rfl⟩ := List.getElem_of_mem hm
  have hi' : i < l.length := by have := h.1; omega
  have e : gd l' i = l'[i] := by
    have := gd_at hi
    rw [List.getElem?_eq_getElem hi] at this
    exact (Option.some.inj this).symm
  obtain ⟨a0, a1, a2, a3, a4, a5⟩ := hs (gd l i) (List.mem_of_getElem? (gd_at hi'))
  obtain ⟨a, b, c, d, e1, f⟩ := h.2 i hi'
  rw [← e]
  exact ⟨by omega, by omega, by omega, by omega, by omega, by omega⟩
theorem shErr_zero {n : Nat} {l : List T_target_Sheet} (h1 : 1 ≤ n) (h2 : n ≤ 8) (hl : l.length ≤ 20) (hs : ∀ s ∈ l, okSheet n s) : shErr n l = 0 := by
  unfold shErr
  have a1 : l.all (shPlace n) = true := List.all_eq_true.2 fun s h => decide_eq_true ⟨(hs s h).1, (hs s h).2.1, (hs s h).2.2.1⟩
  have a2 : l.all shRange = true := List.all_eq_true.2 fun s h => decide_eq_true (hs s h).2.2.2
  rw [if_neg (by omega), if_pos a1, if_pos a2]
end Go.Proofs.Ytaoaelhmiggepaa
