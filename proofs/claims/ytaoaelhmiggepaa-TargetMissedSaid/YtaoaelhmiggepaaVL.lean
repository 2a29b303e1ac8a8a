/- Laws of models' loops, in plain Lean. -/
import Derived.Test.YtaoaelhmiggepaaVM
namespace Go.KL
variable {S S' B B' α : Type}
/-- How two runs of loops end. -/
def Ends (R : S → S' → Prop) (RB : B → B' → Prop) : Option (S ⊕ B) → Option (S' ⊕ B') → Prop
  | some (.inl s), some (.inl s') => R s s'
  | some (.inr b), some (.inr b') => RB b b'
  | _, _ => False
/-- A loop with an invariant. -/
theorem forN_inv {body : Nat → S → Option (S ⊕ B)} (I : Nat → S → Prop) (Z : B → Prop) : ∀ (m k : Nat) (s : S), I k s →
    (∀ i s, k ≤ i → i < k + m → I i s → (∃ s', body i s = some (.inl s') ∧ I (i + 1) s') ∨ ∃ b, body i s = some (.inr b) ∧ Z b) →
    (∃ s', forN body m k s = some (.inl s') ∧ I (k + m) s') ∨ ∃ b, forN body m k s = some (.inr b) ∧ Z b
  | 0, k, s, h, _ => .inl ⟨s, rfl, h⟩
  | m + 1, k, s, h, hb => by
    simp only [forN]
    rcases hb k s (Nat.le_refl _) (by omega) h with ⟨s', h1, h2⟩ | ⟨b, h1, h2⟩
    · rw [h1]
      have := forN_inv I Z m (k + 1) s' h2 fun i s h2 h3 h4 => hb i s (by omega) (by omega) h4
      rwa [show k + 1 + m = k + (m + 1) from by omega] at this
    · rw [h1]; exact .inr ⟨b, rfl, h2⟩
theorem forN'_inv {body : Nat → S → Option S} (I : Nat → S → Prop) : ∀ (m k : Nat) (s : S), I k s →
    (∀ i s, k ≤ i → i < k + m → I i s → ∃ s', body i s = some s' ∧ I (i + 1) s') → ∃ s', forN' body m k s = some s' ∧ I (k + m) s'
  | 0, k, s, h, _ => ⟨s, rfl, h⟩
  | m + 1, k, s, h, hb => by
    simp only [forN']
    obtain ⟨s', h1, h2⟩ := hb k s (Nat.le_refl _) (by omega) h
    rw [h1]
    have := forN'_inv I m (k + 1) s' h2 fun i s h2 h3 h4 => hb i s (by omega) (by omega) h4
    rwa [show k + 1 + m = k + (m + 1) from by omega] at this
/-- Over a list, from 0 to its length. -/
theorem forR_list {body : Nat → S → Option (S ⊕ B)} {n : Nat} {s : S} (hn : n ≤ 9223372036854775807) : forR 0 (n : Int) body s = forN body n 0 s := by
  unfold forR
  rw [if_pos (by omega), show ((n : Int) - 0).toNat = n from by omega]
theorem forR'_list {body : Nat → S → Option S} {n : Nat} {s : S} (hn : n ≤ 9223372036854775807) : forR' 0 (n : Int) body s = forN' body n 0 s := by
  unfold forR'
  rw [if_pos (by omega), show ((n : Int) - 0).toNat = n from by omega]
/-- The first element of which something holds. -/
def first (p : α → Bool) : List α → Nat → Int
  | [], _ => -1
  | a :: l, k => if p a then (k : Int) else first p l (k + 1)
theorem first_any (p : α → Bool) : ∀ (l : List α) (k : Nat), decide (0 ≤ first p l k) = l.any p
  | [], k => by simp [first]
  | a :: l, k => by
    rw [first, List.any_cons]
    by_cases h : p a
    · simp [h]
    · simp [h, first_any p l (k + 1)]
theorem loop_first {R : Type} {l : List α} {f : α → Option Bool} {p : α → Bool} (hf : ∀ a ∈ l, f a = some (p a)) (hn : l.length ≤ 9223372036854775807) (z : Int → R) :
    (jn (forR 0 (↑l.length : Int) (fun k2 (_ : Unit) => (idx l (↑k2 : Int)).bind fun x => (f x).bind fun y => if y = true then esc (some (z (↑k2 : Int))) else some (.inl ())) ()) fun _ => some (z (-1))) = some (z (first p l 0)) := by
  rw [forR_list hn]
  have key : ∀ (m k : Nat), k + m = l.length → (jn (forN (fun k2 (_ : Unit) => (idx l (↑k2 : Int)).bind fun x => (f x).bind fun y => if y = true then esc (some (z (↑k2 : Int))) else some (.inl ())) m k ()) fun _ => some (z (-1))) = some (z (first p (l.drop k) k)) := by
    intro m
    induction m with
    | zero => intro k hk; rw [List.drop_eq_nil_of_le (by omega)]; rfl
    | succ m ih =>
      intro k hk
      have hlt : k < l.length := by omega
      rw [List.drop_eq_getElem_cons hlt, first, forN, idx_nat, List.getElem?_eq_getElem hlt]
      simp only [Option.bind_some, hf _ (List.getElem_mem hlt)]
      by_cases h : p l[k] = true
      · simp [h]
      · simp only [h, if_false, Bool.false_eq_true]
        exact ih (k + 1) (by omega)
  exact key l.length 0 (by omega)
theorem app_ok {bytes : Nat} {l m : List α} (h : (l.length + m.length) * bytes ≤ 140737488355328) : app bytes l m = some (l ++ m) := if_pos h
end Go.KL
