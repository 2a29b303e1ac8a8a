/- The places that teams can reach: what both texts compute. -/
import Derived.Test.YtfdnbaahdjlapaaGreatMod
import Derived.Test.YtfdnbaahdjlapaaGreatVL
namespace Go.Proofs.YtfdnbaahdjlapaaGreat
open Go.KL

/-- How many numbers below n have a property. -/
def cn (p : Nat → Bool) : Nat → Nat
  | 0 => 0
  | k + 1 => cn p k + if p k = true then 1 else 0
theorem cn_le (p : Nat → Bool) : ∀ n, cn p n ≤ n
  | 0 => Nat.le_refl _
  | n + 1 => by
    have := cn_le p n
    simp only [cn]
    split <;> omega
theorem cn_mono {p q : Nat → Bool} : ∀ n, (∀ k, k < n → p k = true → q k = true) → cn p n ≤ cn q n
  | 0, _ => Nat.le_refl _
  | n + 1, h => by
    have := cn_mono n fun k hk => h k (by omega)
    have hn := h n (by omega)
    simp only [cn]
    by_cases hp : p n = true
    · rw [if_pos hp, if_pos (hn hp)]; omega
    · rw [if_neg hp]; omega
theorem cn_congr {p q : Nat → Bool} : ∀ n, (∀ k, k < n → p k = q k) → cn p n = cn q n
  | 0, _ => rfl
  | n + 1, h => by
    simp only [cn]
    rw [cn_congr n fun k hk => h k (by omega), h n (by omega)]
theorem idx_gd {α : Type} [Inhabited α] {l : List α} {k : Nat} (h : k < l.length) : idx l (k : Int) = some (gd l k) := by
  rw [idx_nat]
  unfold gd
  rw [List.getD_eq_getElem?_getD, List.getElem?_eq_getElem h]
  rfl
def pLo (l : List T_api_Span) (i j : Nat) : Bool := decide (j ≠ i) && decide ((gd l j).Hi < (gd l i).Lo)
def pHi (l : List T_api_Span) (i j : Nat) : Bool := decide (j ≠ i) && decide ((gd l j).Lo < (gd l i).Hi)
def plc (l : List T_api_Span) (i : Nat) : T_api_Span := ⟨1 + (cn (pLo l i) l.length : Int), 1 + (cn (pHi l i) l.length : Int)⟩
def plcs (l : List T_api_Span) : List T_api_Span := (List.range l.length).map (plc l)
/-- What both texts return. -/
def chances (l : List T_api_Span) : List T_api_Span × Int :=
  if 40 < l.length then ([], 2) else if l.all (fun s => decide (s.Lo ≤ s.Hi)) = true then (plcs l, 0) else ([], 3)
theorem each_ok {l : List T_api_Span} {f : T_api_Span → Option Bool} {p : T_api_Span → Bool} (hf : ∀ a, f a = some (p a)) (hn : l.length ≤ 9223372036854775807) : m_relay_each_api_Span l f = some (l.all p) := by
  unfold m_relay_each_api_Span m_slices_ContainsFunc_api_Span_api_Span m_slices_IndexFunc_api_Span_api_Span m_relay_each_api_Span_1
  have := loop_first (R := Int) (l := l) (f := fun x => (f x).bind fun x5 => some (!x5)) (p := fun a => !p a) (fun a _ => by rw [hf]; rfl) hn id
  simp only [id] at this
  rw [this]
  simp only [Option.bind_some, first_any]
  congr 1
  clear this hn
  induction l with
  | nil => rfl
  | cons a l ih => rw [List.any_cons, List.all_cons, ← ih]; cases p a <;> simp
theorem range_app (f : Nat → T_api_Span) (i : Nat) : (List.range i).map f ++ [f i] = (List.range (i + 1)).map f := by
  rw [List.range_succ, List.map_append]; rfl
section
variable {l : List T_api_Span} (hn : l.length ≤ 1000)
include hn
theorem e1 (p : Nat → Bool) {k : Nat} (hk : k < l.length) : w64 (1 + (cn p k : Int) + 1) = 1 + ((cn p k + 1 : Nat) : Int) := by
  have := cn_le p k
  rw [w64_in (by omega) (by omega)]
  omega
theorem e0 (p : Nat → Bool) {k : Nat} (hk : k < l.length) : w64 ((cn p k : Int) + 1) = ((cn p k + 1 : Nat) : Int) := by
  have := cn_le p k
  rw [w64_in (by omega) (by omega)]
  omega
theorem prog_chances : m_relay_Chances l = some (chances l) := by
  unfold m_relay_Chances chances
  by_cases h40 : 40 < l.length
  · rw [if_pos (by omega), if_pos h40]
  rw [if_neg (by omega), if_neg h40, each_ok (f := m_relay_Chances_1) (p := fun s => decide (s.Lo ≤ s.Hi)) (fun a => rfl) (by omega), Option.bind_some]
  by_cases ha : l.all (fun s => decide (s.Lo ≤ s.Hi)) = true
  · rw [if_pos ha, if_pos ha, forR'_list (by omega)]
    obtain ⟨y, y1, y2⟩ := forN'_inv (S := List T_api_Span) (body := fun k36 l32 =>
        (idx l (↑k36 : Int)).bind fun x60 =>
        (forR' 0 (↑l.length : Int) (fun k93 (x91, x92) =>
          (idx l (↑k93 : Int)).bind fun x122 =>
          if (↑k93 : Int) = (↑k36 : Int) then
            some (x91, x92)
          else
            if x122.Hi < x60.Lo then
              if x122.Lo < x60.Hi then
                some (w64 (x91 + 1), w64 (x92 + 1))
              else
                some (w64 (x91 + 1), x92)
            else
              if x122.Lo < x60.Hi then
                some (x91, w64 (x92 + 1))
              else
                some (x91, x92)) (1, 1)).bind fun (y98, y99) =>
        (app 16 l32 [(⟨y98, y99⟩ : T_api_Span)]).bind fun x193 =>
        some x193) (fun i r => r = (List.range i).map (plc l)) l.length 0 [] rfl
      (by
        intro i r _ hi hr
        rw [idx_gd (by omega), Option.bind_some, forR'_list (by omega)]
        obtain ⟨z, z1, z2⟩ := forN'_inv (S := Int × Int) (body := fun k93 (x91, x92) =>
          (idx l (↑k93 : Int)).bind fun x122 =>
          if (↑k93 : Int) = (↑i : Int) then
            some (x91, x92)
          else
            if x122.Hi < (gd l i).Lo then
              if x122.Lo < (gd l i).Hi then
                some (w64 (x91 + 1), w64 (x92 + 1))
              else
                some (w64 (x91 + 1), x92)
            else
              if x122.Lo < (gd l i).Hi then
                some (x91, w64 (x92 + 1))
              else
                some (x91, x92)) (fun k s => s = (1 + (cn (pLo l i) k : Int), 1 + (cn (pHi l i) k : Int))) l.length 0 (1, 1) rfl
          (by
            rintro k s _ hk rfl
            refine ⟨_, ?_, rfl⟩
            simp only [idx_gd (show k < l.length by omega), Option.bind_some]
            by_cases hki : k = i
            · subst hki
              simp [cn, pLo, pHi]
            · rw [if_neg (by omega)]
              by_cases h1 : (gd l k).Hi < (gd l i).Lo <;> by_cases h2 : (gd l k).Lo < (gd l i).Hi <;> simp [cn, pLo, pHi, hki, h1, h2, e1 hn _ (show k < l.length by omega)])
        rw [z1, z2, Option.bind_some, Nat.zero_add]
        subst hr
        simp only
        rw [app_ok (by simp; omega), Option.bind_some]
        exact ⟨_, rfl, range_app (plc l) i⟩)
    rw [y1, y2, Nat.zero_add, Option.bind_some]
    rfl
  · rw [if_neg ha, if_neg ha]
end
end Go.Proofs.YtfdnbaahdjlapaaGreat
