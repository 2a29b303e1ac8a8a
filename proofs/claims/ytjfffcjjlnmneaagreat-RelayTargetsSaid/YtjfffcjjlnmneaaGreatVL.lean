/- Laws of models' loops, in plain Lean. -/
import Derived.Test.YtjfffcjjlnmneaaGreatVM
namespace Go.KL
variable {S S' B B' α : Type}
/-- How two runs of loops end. -/
def Ends (R : S → S' → Prop) (RB : B → B' → Prop) : Option (S ⊕ B) → Option (S' ⊕ B') → Prop
  | some (.inl s), some (.inl s') => R s s'
  | some (.inr b), some (.inr b') => RB b b'
  | _, _ => False
theorem forN_sim {body : Nat → S → Option (S ⊕ B)} {body' : Nat → S' → Option (S' ⊕ B')} (R : Nat → S → S' → Prop) (RB : B → B' → Prop) : ∀ (m k : Nat) (s : S) (s' : S'), R k s s' →
    (∀ i s s', k ≤ i → i < k + m → R i s s' → Ends (R (i + 1)) RB (body i s) (body' i s')) → Ends (R (k + m)) RB (forN body m k s) (forN body' m k s')
  | 0, k, s, s', h, _ => h
  | m + 1, k, s, s', h, hb => by
    have h1 := hb k s s' (Nat.le_refl _) (by omega) h
    simp only [forN]
    revert h1
    cases body k s with
    | none => intro h1; exact h1.elim
    | some x =>
      cases body' k s' with
      | none => intro h1; cases x <;> exact h1.elim
      | some y =>
        intro h1
        cases x with
        | inl a =>
          cases y with
          | inl b =>
            have := forN_sim R RB m (k + 1) a b h1 fun i s s' h2 h3 h4 => hb i s s' (by omega) (by omega) h4
            rwa [show k + 1 + m = k + (m + 1) from by omega] at this
          | inr b => exact h1.elim
        | inr a =>
          cases y with
          | inl b => exact h1.elim
          | inr b => exact h1
/-- A loop with an invariant. -/
theorem forN_inv {body : Nat → S → Option (S ⊕ B)} (I : Nat → S → Prop) (Z : B → Prop) : ∀ (m k : Nat) (s : S), I k s →
    (∀ i s, k ≤ i → i < k + m → I i s → (∃ s', body i s = some (.inl s') ∧ I (i + 1) s') ∨ ∃ b, body i s = some (.inr b) ∧ Z b) →
    (∃ s', forN body m k s = some (.inl s') ∧ I (k + m) s') ∨ ∃ b, forN body m k s = some (.inr b) ∧ Z b
  | 0, k, s, h, _ => .inl ⟨s, rfl, h⟩
  | m + 1, k, s, h, hb => by
    simp only [forN]
    rcases hb k s (Nat.le_refl _) (by omega) h with ⟨s', h1, h2⟩ | ⟨b, h1, h2⟩
    · rw [h1]
      have := forN_inv I Z m (k + 1) s' h2 fun i s h2 h3 h4 => hb i s (by omega) (by omega) h4
      rwa [show k + 1 + m = k + (m + 1) from by omega] at this
    · rw [h1]; exact .inr ⟨b, rfl, h2⟩
theorem forN'_inv {body : Nat → S → Option S} (I : Nat → S → Prop) : ∀ (m k : Nat) (s : S), I k s →
    (∀ i s, k ≤ i → i < k + m → I i s → ∃ s', body i s = some s' ∧ I (i + 1) s') → ∃ s', forN' body m k s = some s' ∧ I (k + m) s'
  | 0, k, s, h, _ => ⟨s, rfl, h⟩
  | m + 1, k, s, h, hb => by
    simp only [forN']
    obtain ⟨s', h1, h2⟩ := hb k s (Nat.le_refl _) (by omega) h
    rw [h1]
    have := forN'_inv I m (k + 1) s' h2 fun i s h2 h3 h4 => hb i s (by omega) (by omega) h4
    rwa [show k + 1 + m = k + (m + 1) from by omega] at this
/-- Over a list, from 0 to its length. -/
theorem forR_list {body : Nat → S → Option (S ⊕ B)} {n : Nat} {s : S} (hn : n ≤ 9223372036854775807) : forR 0 (n : Int) body s = forN body n 0 s := by
  unfold forR
  rw [if_pos (by omega), show ((n : Int) - 0).toNat = n from by omega]
theorem forR'_list {body : Nat → S → Option S} {n : Nat} {s : S} (hn : n ≤ 9223372036854775807) : forR' 0 (n : Int) body s = forN' body n 0 s := by
  unfold forR'
  rw [if_pos (by omega), show ((n : Int) - 0).toNat = n from by omega]
/-- The first element of which something holds. -/
def first (p : α → Bool) : List α → Nat → Int
  | [], _ => -1
  | a :: l, k => if p a then (k : Int) else first p l (k + 1)
theorem first_any (p : α → Bool) : ∀ (l : List α) (k : Nat), decide (0 ≤ first p l k) = l.any p
  | [], k => by simp [first]
  | a :: l, k => by
    rw [first, List.any_cons]
    by_cases h : p a
    · simp [h]
    · simp [h, first_any p l (k + 1)]
theorem loop_first {R : Type} {l : List α} {f : α → Option Bool} {p : α → Bool} (hf : ∀ a ∈ l, f a = some (p a)) (hn : l.length ≤ 9223372036854775807) (z : Int → R) :
    (jn (forR 0 (↑l.length : Int) (fun k2 (_ : Unit) => (idx l (↑k2 : Int)).bind fun x => (f x).bind fun y => if y = true then esc (some (z (↑k2 : Int))) else some (.inl ())) ()) fun _ => some (z (-1))) = some (z (first p l 0)) := by
  rw [forR_list hn]
  have key : ∀ (m k : Nat), k + m = l.length → (jn (forN (fun k2 (_ : Unit) => (idx l (↑k2 : Int)).bind fun x => (f x).bind fun y => if y = true then esc (some (z (↑k2 : Int))) else some (.inl ())) m k ()) fun _ => some (z (-1))) = some (z (first p (l.drop k) k)) := by
    intro m
    induction m with
    | zero => intro k hk; rw [List.drop_eq_nil_of_le (by omega)]; rfl
    | succ m ih =>
      intro k hk
      have hlt : k < l.length := by omega
      rw [List.drop_eq_getElem_cons hlt, first, forN, idx_nat, List.getElem?_eq_getElem hlt]
      simp only [Option.bind_some, hf _ (List.getElem_mem hlt)]
      by_cases h : p l[k] = true
      · simp [h]
      · simp only [h, if_false, Bool.false_eq_true]
        exact ih (k + 1) (by omega)
  exact key l.length 0 (by omega)
theorem loop_equal [DecidableEq α] {l m : List α} (hn : l.length ≤ 9223372036854775807) :
    (if (↑l.length : Int) = (↑m.length : Int) then jn (forR 0 (↑l.length : Int) (fun k4 (_ : Unit) => (idx l (↑k4 : Int)).bind fun x26 => (idx m (↑k4 : Int)).bind fun x34 => if x26 = x34 then some (.inl ()) else esc (some false)) ()) fun _ => some true else some false) = some (decide (l = m)) := by
  by_cases hl : l.length = m.length
  · rw [if_pos (by omega), forR_list hn]
    have key : ∀ (n k : Nat), k + n = l.length → (jn (forN (fun k4 (_ : Unit) => (idx l (↑k4 : Int)).bind fun x26 => (idx m (↑k4 : Int)).bind fun x34 => if x26 = x34 then some (.inl ()) else esc (some false)) n k ()) fun _ => some true) = some (decide (l.drop k = m.drop k)) := by
      intro n
      induction n with
      | zero => intro k hk; rw [List.drop_eq_nil_of_le (by omega), List.drop_eq_nil_of_le (by omega)]; simp [forN]
      | succ n ih =>
        intro k hk
        have h1 : k < l.length := by omega
        have h2 : k < m.length := by omega
        rw [List.drop_eq_getElem_cons h1, List.drop_eq_getElem_cons h2, forN, idx_nat, idx_nat, List.getElem?_eq_getElem h1, List.getElem?_eq_getElem h2]
        simp only [Option.bind_some]
        by_cases h : l[k] = m[k]
        · rw [if_pos h]
          simp only
          rw [ih (k + 1) (by omega)]
          congr 1
          exact decide_eq_decide.2 ⟨fun e => by rw [e, h], fun e => (List.cons.inj e).2⟩
        · rw [if_neg h]
          have : ¬ l[k] :: l.drop (k + 1) = m[k] :: m.drop (k + 1) := fun e => h (List.cons.inj e).1
          simp only [esc_some, jn_some_inr, this, decide_false]
    have := key l.length 0 (by omega)
    simpa using this
  · rw [if_neg (by omega)]
    have : l ≠ m := fun e => hl (by rw [e])
    simp [this]
theorem loop_all {R : Type} {l : List α} {g : α → Option (Unit ⊕ R)} {p : α → Bool} {z : R} {K : Unit → Option R} (hg : ∀ a ∈ l, g a = if p a = true then some (.inl ()) else some (.inr z)) (hn : l.length ≤ 9223372036854775807) :
    jn (forR 0 (↑l.length : Int) (fun k (_ : Unit) => (idx l (↑k : Int)).bind g) ()) K = if l.all p = true then K () else some z := by
  rw [forR_list hn]
  have key : ∀ (m k : Nat), k + m = l.length → jn (forN (fun k (_ : Unit) => (idx l (↑k : Int)).bind g) m k ()) K = if (l.drop k).all p = true then K () else some z := by
    intro m
    induction m with
    | zero => intro k hk; rw [List.drop_eq_nil_of_le (by omega)]; rfl
    | succ m ih =>
      intro k hk
      have hlt : k < l.length := by omega
      have e : l.drop k = l[k] :: l.drop (k + 1) := List.drop_eq_getElem_cons hlt
      rw [e, List.all_cons, forN, idx_nat, List.getElem?_eq_getElem hlt]
      simp only [Option.bind_some, hg _ (List.getElem_mem hlt)]
      by_cases h : p l[k] = true
      · rw [h]
        simp only [if_true, Bool.true_and]
        exact ih (k + 1) (by omega)
      · rw [if_neg h]
        have : p l[k] = false := by simpa using h
        simp only [this, Bool.false_and, jn_some_inr, Bool.false_eq_true, if_false]
  exact key l.length 0 (by omega)
/-- A list that is built one by one. -/
theorem loop_map {β : Type} {l : List α} {f : α → β} {bytes : Nat} {g : α → List β → Option (List β)} (hg : ∀ a ∈ l, ∀ r, g a r = app bytes r [f a]) (hn : l.length ≤ 9223372036854775807) (hb : l.length * bytes ≤ 140737488355328) :
    forR' 0 (↑l.length : Int) (fun k r => (idx l (↑k : Int)).bind fun x => g x r) [] = some (l.map f) := by
  rw [forR'_list hn]
  have key : ∀ (m k : Nat) (r : List β), k + m = l.length → r.length = k → forN' (fun k r => (idx l (↑k : Int)).bind fun x => g x r) m k r = some (r ++ (l.drop k).map f) := by
    intro m
    induction m with
    | zero => intro k r hk _; rw [List.drop_eq_nil_of_le (by omega)]; simp [forN']
    | succ m ih =>
      intro k r hk hr
      have hlt : k < l.length := by omega
      have e : l.drop k = l[k] :: l.drop (k + 1) := List.drop_eq_getElem_cons hlt
      rw [e, forN', idx_nat, List.getElem?_eq_getElem hlt]
      have ha : app bytes r [f l[k]] = some (r ++ [f l[k]]) := by
        refine if_pos ?_
        simp only [List.length_cons, List.length_nil]
        exact Nat.le_trans (Nat.mul_le_mul_right _ (by omega)) hb
      simp only [Option.bind_some, hg _ (List.getElem_mem hlt), ha]
      rw [ih (k + 1) _ (by omega) (by simp [hr]), List.append_assoc]
      rfl
  exact key l.length 0 [] (by omega) rfl
theorem app_ok {bytes : Nat} {l m : List α} (h : (l.length + m.length) * bytes ≤ 140737488355328) : app bytes l m = some (l ++ m) := if_pos h
end Go.KL
