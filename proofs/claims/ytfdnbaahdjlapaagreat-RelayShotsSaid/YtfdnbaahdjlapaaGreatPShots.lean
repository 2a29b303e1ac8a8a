/- The plain law of RelayShots. -/
import Derived.Test.YtfdnbaahdjlapaaGreatMod
import Derived.Test.YtfdnbaahdjlapaaGreatVL
namespace Go.Proofs.YtfdnbaahdjlapaaGreat
open Go.KL

def inB (n lo hi : Int) : Bool := decide (lo ≤ n ∧ n ≤ hi)
theorem in_is (n lo hi : Int) : m_relay_in n lo hi = some (inB n lo hi) := by
  unfold m_relay_in inB
  by_cases h : lo ≤ n
  · rw [if_pos h]; simp [h]
  · rw [if_neg h]; simp [h]
theorem off_is (n lo hi : Int) : m_klisterref08_off n lo hi = some (!inB n lo hi) := by
  unfold m_klisterref08_off inB
  by_cases h : n < lo
  · rw [if_pos h]
    have : ¬ (lo ≤ n ∧ n ≤ hi) := by omega
    simp [this]
  · rw [if_neg h]
    congr 1
    by_cases h2 : n ≤ hi
    · have h3 : lo ≤ n ∧ n ≤ hi := by omega
      simp [h3]
    · have h3 : ¬ (lo ≤ n ∧ n ≤ hi) := by omega
      simp [h3]; omega
theorem eachInt {l : List Int} {f : Int → Option Bool} {p : Int → Bool} (hf : ∀ a, f a = some (p a)) (hn : l.length ≤ 9223372036854775807) : m_relay_each_int l f = some (l.all p) := by
  unfold m_relay_each_int m_slices_ContainsFunc_int_int m_slices_IndexFunc_int_int m_relay_each_int_1
  have := loop_first (R := Int) (l := l) (f := fun x => (f x).bind fun x5 => some (!x5)) (p := fun a => !p a) (fun a _ => by rw [hf]; rfl) hn id
  simp only [id] at this
  rw [this]
  simp only [Option.bind_some, first_any]
  congr 1
  clear this hn
  induction l with
  | nil => rfl
  | cons a l ih => rw [List.any_cons, List.all_cons, ← ih]; cases p a <;> simp
theorem eachLim {l : List T_relay_limit} {f : T_relay_limit → Option Bool} {p : T_relay_limit → Bool} (hf : ∀ a ∈ l, f a = some (p a)) (hn : l.length ≤ 9223372036854775807) : m_relay_each_relay_limit l f = some (l.all p) := by
  unfold m_relay_each_relay_limit m_slices_ContainsFunc_relay_limit_relay_limit m_slices_IndexFunc_relay_limit_relay_limit m_relay_each_relay_limit_1
  have := loop_first (R := Int) (l := l) (f := fun x => (f x).bind fun x5 => some (!x5)) (p := fun a => !p a) (fun a ha => by rw [hf a ha]; rfl) hn id
  simp only [id] at this
  rw [this]
  simp only [Option.bind_some, first_any]
  congr 1
  clear this hn hf
  induction l with
  | nil => rfl
  | cons a l ih => rw [List.any_cons, List.all_cons, ← ih]; cases p a <;> simp
/-- The error of rules. -/
def rulesErr (p : T_relay_Rules) : Int :=
  if inB p.Classes.length 1 4 = true then
    if (p.Classes.all (fun n => inB n 0 3) && (inB p.Each 1 4 && (inB p.Laps 1 5 && (inB p.Spare 0 600 && (inB p.Loop 0 600 && inB p.Unused 0 6000))))) = true then 0 else 3
  else 2
theorem rules_prog {p : T_relay_Rules} (hn : p.Classes.length ≤ 1000) : m_relay_CheckRules p = some (rulesErr p) := by
  unfold m_relay_CheckRules rulesErr
  rw [in_is, Option.bind_some]
  by_cases h1 : inB p.Classes.length 1 4 = true
  · rw [if_pos h1, if_pos h1]
    have hc : m_relay_classed p.Classes = some (p.Classes.all fun n => inB n 0 3) := by
      unfold m_relay_classed
      rw [eachInt (f := m_relay_classed_1) (p := fun n => inB n 0 3) (fun a => by unfold m_relay_classed_1; rw [in_is]; rfl) (by omega)]
      rfl
    rw [hc, Option.bind_some]
    by_cases h2 : (p.Classes.all fun n => inB n 0 3) = true
    · rw [if_pos h2, h2, Bool.true_and]
      unfold m_relay_limits
      rw [Option.bind_some, eachLim (p := fun a => match a.of p with | some x => inB x a.lo a.hi | none => true) (fun a ha => by
        unfold m_relay_CheckRules_1
        simp only [List.mem_cons, List.not_mem_nil, or_false] at ha
        rcases ha with rfl | rfl | rfl | rfl | rfl <;> simp [m_relay_limits_1, m_relay_limits_2, m_relay_limits_3, m_relay_limits_4, m_relay_limits_5, in_is]) (by simp)]
      simp only [Option.bind_some, List.all_cons, List.all_nil, Bool.and_true, m_relay_limits_1, m_relay_limits_2, m_relay_limits_3, m_relay_limits_4, m_relay_limits_5]
      split <;> rfl
    · rw [if_neg h2, if_neg (by simp [h2])]
  · rw [if_neg h1, if_neg h1]
theorem bad_is {l : List Int} (hn : l.length ≤ 9223372036854775807) : m_klisterref08_bad l = some (!l.all fun n => inB n 0 3) := by
  unfold m_klisterref08_bad
  rw [loop_all (l := l) (g := fun x20 => (m_klisterref08_off x20 0 3).bind fun x28 => if x28 = true then esc (some true) else some (.inl ())) (p := fun n => inB n 0 3) (z := true) (fun a _ => by
    rw [off_is, Option.bind_some]
    cases inB a 0 3 <;> rfl) hn]
  split
  · rename_i h; rw [h]; rfl
  · rename_i h
    simp only [Bool.not_eq_true] at h
    rw [h]; rfl
theorem rules_ref {p : T_relay_Rules} (hn : p.Classes.length ≤ 1000) : m_klisterref08_CheckRules ⟨p.Classes, p.Each, p.Laps, p.Spare, p.Loop, p.Unused⟩ = some (rulesErr p) := by
  unfold m_klisterref08_CheckRules rulesErr
  simp only [off_is, Option.bind_some, bad_is (show p.Classes.length ≤ 9223372036854775807 by omega)]
  cases inB p.Classes.length 1 4 <;> simp only [Bool.not_false, Bool.not_true, if_true, if_false, Bool.false_eq_true]
  cases (p.Classes.all fun n => inB n 0 3) <;> simp only [Bool.not_false, Bool.not_true, if_true, if_false, Bool.false_eq_true, Bool.false_and, Bool.true_and]
  cases inB p.Each 1 4 <;> simp only [Bool.not_false, Bool.not_true, if_true, if_false, Bool.false_eq_true, Bool.false_and, Bool.true_and]
  cases inB p.Laps 1 5 <;> simp only [Bool.not_false, Bool.not_true, if_true, if_false, Bool.false_eq_true, Bool.false_and, Bool.true_and]
  cases inB p.Spare 0 600 <;> simp only [Bool.not_false, Bool.not_true, if_true, if_false, Bool.false_eq_true, Bool.false_and, Bool.true_and]
  cases inB p.Loop 0 600 <;> simp only [Bool.not_false, Bool.not_true, if_true, if_false, Bool.false_eq_true, Bool.false_and, Bool.true_and]
  cases inB p.Unused 0 6000 <;> simp only [Bool.not_false, Bool.not_true, if_true, if_false, Bool.false_eq_true]
/-- What comes of a bout. -/
def hitsTo : List Bool → Nat → Option Nat
  | [], k => some k
  | b :: l, k => if k = 5 then none else hitsTo l (k + if b = true then 1 else 0)
theorem hitsTo_le : ∀ (l : List Bool) (k m : Nat), k ≤ 5 → hitsTo l k = some m → k ≤ m ∧ m ≤ 5
  | [], k, m, hk, h => by cases h; omega
  | b :: l, k, m, hk, h => by
    rw [hitsTo] at h
    split at h
    · cases h
    · have := hitsTo_le l _ m (by split <;> omega) h
      split at this <;> omega
def shotIs (l : List Bool) : T_klisterref08_Shooting × Int :=
  if inB l.length 5 8 = true then
    match hitsTo l 0 with
    | none => (⟨0, 0, 0⟩, 8)
    | some m => (⟨(l.length : Int) - 5, 5 - (m : Int), if m < 5 then 8 - (l.length : Int) else 0⟩, 0)
  else (⟨0, 0, 0⟩, 2)
theorem prog_loop {l : List Bool} {R : Type} (z : R) (K : Int → Option R) : ∀ (m k h : Nat), k + m = l.length → h ≤ 5 →
    jn (forN (fun k23 (x22 : Int) => (idx l (↑k23 : Int)).bind fun x45 => if x22 = 0 then esc (some z) else if x45 = true then some (.inl (w64 (x22 - 1))) else some (.inl x22)) m k (5 - (h : Int))) K =
      (match hitsTo (l.drop k) h with | none => some z | some m => K (5 - (m : Int)))
  | 0, k, h, hk, _ => by rw [List.drop_eq_nil_of_le (by omega)]; rfl
  | m + 1, k, h, hk, h5 => by
    have hlt : k < l.length := by omega
    rw [List.drop_eq_getElem_cons hlt, hitsTo, forN, idx_nat, List.getElem?_eq_getElem hlt]
    simp only [Option.bind_some]
    by_cases hz : h = 5
    · rw [if_pos (by omega), if_pos hz]; rfl
    · rw [if_neg (by omega), if_neg hz]
      by_cases hb : l[k] = true
      · rw [if_pos hb, if_pos hb, w64_in (by omega) (by omega)]
        have := prog_loop (l := l) z K m (k + 1) (h + 1) (by omega) (by omega)
        rw [show (5 : Int) - ((h + 1 : Nat) : Int) = 5 - (h : Int) - 1 by omega] at this
        exact this
      · rw [if_neg hb, if_neg hb]
        exact prog_loop (l := l) z K m (k + 1) h (by omega) h5
theorem ref_loop {l : List Bool} {R : Type} (z : R) (K : Int → Option R) : ∀ (m k h : Nat), k + m = l.length → h ≤ 5 →
    jn (forN (fun k27 (x26 : Int) => if x26 = 5 then esc (some z) else (idx l (↑k27 : Int)).bind fun x56 => if x56 = true then some (.inl (w64 (x26 + 1))) else some (.inl x26)) m k (h : Int)) K =
      (match hitsTo (l.drop k) h with | none => some z | some m => K (m : Int))
  | 0, k, h, hk, _ => by rw [List.drop_eq_nil_of_le (by omega)]; rfl
  | m + 1, k, h, hk, h5 => by
    have hlt : k < l.length := by omega
    rw [List.drop_eq_getElem_cons hlt, hitsTo, forN, idx_nat, List.getElem?_eq_getElem hlt]
    by_cases hz : h = 5
    · rw [if_pos (by omega), if_pos hz]; rfl
    · rw [if_neg (by omega), if_neg hz]
      simp only [Option.bind_some]
      by_cases hb : l[k] = true
      · rw [if_pos hb, if_pos hb, w64_in (by omega) (by omega)]
        have := ref_loop (l := l) z K m (k + 1) (h + 1) (by omega) (by omega)
        rw [show ((h + 1 : Nat) : Int) = (h : Int) + 1 by omega] at this
        exact this
      · rw [if_neg hb, if_neg hb]
        exact ref_loop (l := l) z K m (k + 1) h (by omega) h5
theorem shot_prog {l : List Bool} (hn : l.length ≤ 1000) : ∃ s, m_relay_Shot l = some (s, (shotIs l).2) ∧ (⟨s.Spares, s.Loops, s.Unused⟩ : T_klisterref08_Shooting) = (shotIs l).1 := by
  unfold m_relay_Shot shotIs
  rw [in_is, Option.bind_some]
  by_cases h1 : inB l.length 5 8 = true
  · rw [if_pos h1, if_pos h1, forR_list (by omega)]
    have := prog_loop (l := l) (R := T_relay_Shooting × Int) ((⟨0, 0, 0⟩ : T_relay_Shooting), 8) (fun y72 => if 0 < y72 then
      some ((⟨w64 ((↑l.length : Int) - 5), y72, w64 (8 - (↑l.length : Int))⟩ : T_relay_Shooting), 0)
    else
      some ((⟨w64 ((↑l.length : Int) - 5), y72, 0⟩ : T_relay_Shooting), 0)) l.length 0 0 (by omega) (by omega)
    rw [List.drop_zero] at this
    have e : (5 : Int) - ((0 : Nat) : Int) = 5 := rfl
    rw [e] at this
    rw [this]
    cases hq : hitsTo l 0 with
    | none => exact ⟨_, rfl, rfl⟩
    | some m =>
      have := hitsTo_le l 0 m (by omega) hq
      simp only
      rw [w64_in (by omega) (by omega), w64_in (by omega) (by omega)]
      by_cases hm : m < 5
      · rw [if_pos (by omega), if_pos hm]; exact ⟨_, rfl, rfl⟩
      · rw [if_neg (by omega), if_neg hm]; exact ⟨_, rfl, rfl⟩
  · rw [if_neg h1, if_neg h1]
    exact ⟨_, rfl, rfl⟩
theorem shot_ref {l : List Bool} (hn : l.length ≤ 1000) : m_klisterref08_Shot l = some (shotIs l) := by
  unfold m_klisterref08_Shot shotIs
  rw [off_is, Option.bind_some]
  by_cases h1 : inB l.length 5 8 = true
  · rw [if_neg (by rw [h1]; decide), if_pos h1, forR_list (by omega)]
    have := ref_loop (l := l) (R := T_klisterref08_Shooting × Int) ((⟨0, 0, 0⟩ : T_klisterref08_Shooting), 8) (fun y74 => if y74 < 5 then
      some ((⟨w64 ((↑l.length : Int) - 5), w64 (5 - y74), w64 (8 - (↑l.length : Int))⟩ : T_klisterref08_Shooting), 0)
    else
      some ((⟨w64 ((↑l.length : Int) - 5), w64 (5 - y74), 0⟩ : T_klisterref08_Shooting), 0)) l.length 0 0 (by omega) (by omega)
    rw [List.drop_zero] at this
    have e : ((0 : Nat) : Int) = 0 := rfl
    rw [e] at this
    rw [this]
    cases hq : hitsTo l 0 with
    | none => rfl
    | some m =>
      have := hitsTo_le l 0 m (by omega) hq
      simp only
      rw [w64_in (by omega) (by omega), w64_in (by omega) (by omega), w64_in (by omega) (by omega)]
      by_cases hm : m < 5
      · rw [if_pos (by omega), if_pos hm]
      · rw [if_neg (by omega), if_neg hm]
  · have h2 : inB l.length 5 8 = false := by simpa using h1
    rw [if_pos (by rw [h2]; rfl), if_neg h1]
theorem law_Shots (p : T_relay_Rules) (l : List Bool) : m_klisterlaw08_RelayShots p l = some true := by
  unfold m_klisterlaw08_RelayShots
  by_cases h1 : 12 < (l.length : Int)
  · rw [if_pos h1]; rfl
  rw [if_neg h1]
  by_cases h2 : 12 < (p.Classes.length : Int)
  · rw [if_pos h2]; rfl
  rw [if_neg h2]
  have hc : m_klisterlaw08_CloneRules p = some p := by
    unfold m_klisterlaw08_CloneRules m_klisterkit_Clone_int
    rw [app_ok (by simp; omega)]
    rfl
  have hb : m_klisterkit_Clone_bool l = some l := by
    unfold m_klisterkit_Clone_bool
    rw [app_ok (by simp; omega)]
    rfl
  obtain ⟨s, s1, s2⟩ := shot_prog (l := l) (by omega)
  have he : m_klisterlaw08_sameRules p p = some true := by
    unfold m_klisterlaw08_sameRules m_klisterkit_Equal_int
    rw [loop_equal (by omega)]
    simp
  have hq : m_klisterkit_Equal_bool l l = some true := by
    unfold m_klisterkit_Equal_bool
    have := loop_equal (l := l) (m := l) (by omega)
    rw [if_pos rfl] at this ⊢
    simp only [beq_iff_eq]
    rw [this]
    simp
  rw [hc, Option.bind_some, hb, Option.bind_some, rules_prog (by omega), Option.bind_some, Option.bind_some, rules_ref (by omega), Option.bind_some, if_pos rfl, s1, shot_ref (by omega)]
  simp only [Option.bind_some, if_true, s2, he, hq]
  rfl
end Go.Proofs.YtfdnbaahdjlapaaGreat
