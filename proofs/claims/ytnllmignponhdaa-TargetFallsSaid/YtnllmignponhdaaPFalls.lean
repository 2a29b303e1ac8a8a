/- The plain law of TargetFalls: what its model computes is true, for all shots. -/
import Derived.Test.YtnllmignponhdaaMod
import Derived.Test.YtnllmignponhdaaVL
namespace Go.Proofs.Ytnllmignponhdaa
open Go.KL

/-- The distance, as both texts compute it. -/
def fD (s : T_target_Shot) (n : Int) : Int := w64 ((w64 ((w64 (s.X - (w64 (2500 * (w64 (n - 1)))))) * (w64 (s.X - (w64 (2500 * (w64 (n - 1)))))))) + (w64 (s.Y * s.Y)))
def fHit (R : Int) (s : T_target_Shot) (l : List Int) (n : Int) : Bool := !decide (n ∈ l) && decide (fD s n ≤ R)
/-- Which target falls: the last one that is near and stands. -/
def fPick (R : Int) (s : T_target_Shot) (l : List Int) : Int :=
  if fHit R s l 5 then 5 else if fHit R s l 4 then 4 else if fHit R s l 3 then 3 else if fHit R s l 2 then 2 else if fHit R s l 1 then 1 else 0
theorem fPick_range (R : Int) (s : T_target_Shot) (l : List Int) : 0 ≤ fPick R s l ∧ fPick R s l ≤ 5 ∧ (0 < fPick R s l → fPick R s l ∉ l) := by
  unfold fPick
  have h : ∀ n, fHit R s l n = true → n ∉ l := fun n hn => by
    unfold fHit at hn
    simp only [Bool.and_eq_true, Bool.not_eq_true', decide_eq_false_iff_not] at hn
    exact hn.1
  split
  · rename_i e; exact ⟨by omega, by omega, fun _ => h _ e⟩
  · split
    · rename_i e; exact ⟨by omega, by omega, fun _ => h _ e⟩
    · split
      · rename_i e; exact ⟨by omega, by omega, fun _ => h _ e⟩
      · split
        · rename_i e; exact ⟨by omega, by omega, fun _ => h _ e⟩
        · split
          · rename_i e; exact ⟨by omega, by omega, fun _ => h _ e⟩
          · exact ⟨by omega, by omega, fun e => by omega⟩
def refShot (s : T_target_Shot) : T_klisterref03_Shot := ⟨s.X, s.Y⟩
/-- How many targets have fallen. -/
def cnt5 (l : List Int) : Nat := l.count 1 + l.count 2 + l.count 3 + l.count 4 + l.count 5
theorem cnt5_append (l : List Int) (x : Int) (h0 : 0 ≤ x) (h5 : x ≤ 5) : cnt5 (l ++ [x]) = cnt5 l + if 0 < x then 1 else 0 := by
  unfold cnt5
  have : x = 0 ∨ x = 1 ∨ x = 2 ∨ x = 3 ∨ x = 4 ∨ x = 5 := by omega
  rcases this with rfl | rfl | rfl | rfl | rfl | rfl <;> simp [List.count_append] <;> omega
theorem count_le1 {l : List Int} (hn : ∀ n, 0 < n → l.count n ≤ 1) : cnt5 l ≤ 5 := by
  unfold cnt5
  have := hn 1 (by omega); have := hn 2 (by omega); have := hn 3 (by omega); have := hn 4 (by omega); have := hn 5 (by omega)
  omega

/-- What holds of what has fallen so far, in both runs. -/
structure FInv (i : Nat) (d : Arr Bool 6) (x : Int) (l : List Int) : Prop where
  len : l.length = i
  rng : ∀ n ∈ l, 0 ≤ n ∧ n ≤ 5
  one : ∀ n, 0 < n → l.count n ≤ 1
  cnt : x = cnt5 l
  dn : ∀ n : Nat, 1 ≤ n → n ≤ 5 → d.get n = decide ((n : Int) ∈ l)
theorem falls_inner {R : Int} {s : T_target_Shot} {d : Arr Bool 6} {l : List Int} (hd : ∀ n : Nat, 1 ≤ n → n ≤ 5 → d.get n = decide ((n : Int) ∈ l)) {R2 : Int} (hR : w64 (R2 * R2) = R) :
    (forR' 1 (5 + 1) (fun k165 x164 =>
        (chk (1 + ↑k165 : Int) 6).bind fun _ =>
        if (d.get ((1 + ↑k165 : Int).toNat)) = true then
          some x164
        else
          if (w64 ((w64 ((w64 (s.X - (w64 (2500 * (w64 ((1 + ↑k165 : Int) - 1)))))) * (w64 (s.X - (w64 (2500 * (w64 ((1 + ↑k165 : Int) - 1)))))))) + (w64 (s.Y * s.Y)))) ≤ (w64 (R2 * R2)) then
            some (1 + ↑k165 : Int)
          else
            some x164) 0) = some (fPick R s l) := by
  rw [hR]
  have step : ∀ (k : Nat) (x : Int), k < 5 → ((chk (1 + ↑k : Int) 6).bind fun _ =>
        if (d.get ((1 + ↑k : Int).toNat)) = true then
          some x
        else
          if (w64 ((w64 ((w64 (s.X - (w64 (2500 * (w64 ((1 + ↑k : Int) - 1)))))) * (w64 (s.X - (w64 (2500 * (w64 ((1 + ↑k : Int) - 1)))))))) + (w64 (s.Y * s.Y)))) ≤ R then
            some (1 + ↑k : Int)
          else
            some x) = some (if fHit R s l (1 + ↑k : Int) then (1 + ↑k : Int) else x) := by
    intro k x hk
    rw [chk_ok (by omega) (by omega)]
    simp only [Option.bind_some]
    have e : (1 + (k : Int)).toNat = k + 1 := by omega
    rw [e, hd (k + 1) (by omega) (by omega)]
    have e2 : ((k + 1 : Nat) : Int) = 1 + (k : Int) := by omega
    rw [e2]
    unfold fHit fD
    by_cases h1 : (1 + (k : Int)) ∈ l
    · simp [h1]
    · by_cases h2 : (w64 ((w64 ((w64 (s.X - (w64 (2500 * (w64 ((1 + ↑k : Int) - 1)))))) * (w64 (s.X - (w64 (2500 * (w64 ((1 + ↑k : Int) - 1)))))))) + (w64 (s.Y * s.Y)))) ≤ R
      · simp [h1, h2]
      · simp [h1, h2]
  unfold forR'
  rw [if_pos (by omega)]
  show forN' _ 5 0 0 = _
  simp only [forN', step 0 _ (by omega), step (0 + 1) _ (by omega), step (0 + 1 + 1) _ (by omega), step (0 + 1 + 1 + 1) _ (by omega), step (0 + 1 + 1 + 1 + 1) _ (by omega)]
  unfold fPick
  have c1 : (1 + ((0 : Nat) : Int)) = 1 := by omega
  have c2 : (1 + ((0 + 1 : Nat) : Int)) = 2 := by omega
  have c3 : (1 + ((0 + 1 + 1 : Nat) : Int)) = 3 := by omega
  have c4 : (1 + ((0 + 1 + 1 + 1 : Nat) : Int)) = 4 := by omega
  have c5 : (1 + ((0 + 1 + 1 + 1 + 1 : Nat) : Int)) = 5 := by omega
  rw [c1, c2, c3, c4, c5]
/-- The reference looks at all that fell before. -/
theorem ref_scan {l : List Int} {n : Int} (hl : l.length ≤ 8) : ∀ (x : Int) (b : Bool), -100 ≤ x → x ≤ 100 →
    (forR' 0 (↑l.length : Int) (fun k205 (x203, b204) =>
              (chk (↑k205 : Int) l.length).bind fun _ =>
              if (gd l k205) = n then
                some (w64 (x203 - 1), false)
              else
                some (x203, b204)) (x, b)) = some (x - l.count n, b && !decide (n ∈ l)) := by
  intro x b h1 h2
  rw [forR'_list (by omega)]
  have key : ∀ (m k : Nat) (x : Int) (b : Bool), k + m = l.length → -100 - 0 ≤ x + k → x ≤ 100 → (forN' (fun k205 (x203, b204) =>
              (chk (↑k205 : Int) l.length).bind fun _ =>
              if (gd l k205) = n then
                some (w64 (x203 - 1), false)
              else
                some (x203, b204)) m k (x, b)) = some (x - (l.drop k).count n, b && !decide (n ∈ l.drop k)) := by
    intro m
    induction m with
    | zero => intro k x b hk _ _; rw [List.drop_eq_nil_of_le (by omega)]; simp [forN']
    | succ m ih =>
      intro k x b hk h3 h4
      have hlt : k < l.length := by omega
      rw [List.drop_eq_getElem_cons hlt, forN', chk_ok (by omega) (by omega)]
      simp only [Option.bind_some]
      have hg : gd l k = l[k] := by unfold gd; rw [List.getD_eq_getElem?_getD, List.getElem?_eq_getElem hlt]; rfl
      rw [hg]
      by_cases e : l[k] = n
      · rw [if_pos e]
        simp only
        rw [w64_in (by omega) (by omega), ih (k + 1) (x - 1) false (by omega) (by omega) (by omega)]
        rw [List.count_cons, e]
        simp
        omega
      · rw [if_neg e]
        simp only
        rw [ih (k + 1) x b (by omega) (by omega) (by omega)]
        have e' : n ≠ l[k] := fun q => e q.symm
        have m1 : (n ∈ l[k] :: l.drop (k + 1)) ↔ n ∈ l.drop (k + 1) := by rw [List.mem_cons]; exact ⟨fun h => h.resolve_left e', .inr⟩
        have m2 : decide (n ∈ l[k] :: l.drop (k + 1)) = decide (n ∈ l.drop (k + 1)) := decide_eq_decide.2 m1
        rw [m2, List.count_cons, if_neg (by simpa using e)]
        simp only [Nat.add_zero]
  have := key l.length 0 x b (by omega) (by omega) h2
  simpa using this
/-- One shot of the reference. -/
theorem ref_inner {R : Int} {s : T_target_Shot} {l : List Int} {shots : List T_klisterref03_Shot} (hl : l.length ≤ 8) (hs : shots[l.length]? = some (refShot s)) :
    (forR' 1 (5 + 1) (fun k153 (x151, x152) =>
            (idx shots (↑l.length : Int)).bind fun x180 =>
            (forR' 0 (↑l.length : Int) (fun k205 (x203, b204) =>
              (chk (↑k205 : Int) l.length).bind fun _ =>
              if (gd l k205) = (1 + ↑k153 : Int) then
                some (w64 (x203 - 1), false)
              else
                some (x203, b204)) (x152, decide ((w64 ((w64 ((w64 (x180.X - (w64 (2500 * (w64 ((1 + ↑k153 : Int) - 1)))))) * (w64 (x180.X - (w64 (2500 * (w64 ((1 + ↑k153 : Int) - 1)))))))) + (w64 (x180.Y * x180.Y)))) ≤ R))).bind fun (y210, y211) =>
            if y211 = true then
              some ((1 + ↑k153 : Int), y210)
            else
              some (x151, y210)) (0, 5)) = some (fPick R s l, 5 - (cnt5 l : Int)) := by
  have step : ∀ (k : Nat) (a x : Int), k < 5 → -50 ≤ x → x ≤ 50 → ((idx shots (↑l.length : Int)).bind fun x180 =>
            (forR' 0 (↑l.length : Int) (fun k205 (x203, b204) =>
              (chk (↑k205 : Int) l.length).bind fun _ =>
              if (gd l k205) = (1 + ↑k : Int) then
                some (w64 (x203 - 1), false)
              else
                some (x203, b204)) (x, decide ((w64 ((w64 ((w64 (x180.X - (w64 (2500 * (w64 ((1 + ↑k : Int) - 1)))))) * (w64 (x180.X - (w64 (2500 * (w64 ((1 + ↑k : Int) - 1)))))))) + (w64 (x180.Y * x180.Y)))) ≤ R))).bind fun (y210, y211) =>
            if y211 = true then
              some ((1 + ↑k : Int), y210)
            else
              some (a, y210)) = some (if fHit R s l (1 + ↑k : Int) then (1 + ↑k : Int) else a, x - l.count (1 + ↑k : Int)) := by
    intro k a x hk h1 h2
    rw [idx_nat, hs]
    simp only [Option.bind_some]
    rw [ref_scan hl x _ (by omega) (by omega)]
    simp only [Option.bind_some]
    unfold fHit fD refShot
    by_cases h3 : (1 + (k : Int)) ∈ l
    · simp [h3]
    · by_cases h4 : (w64 ((w64 ((w64 (s.X - (w64 (2500 * (w64 ((1 + ↑k : Int) - 1)))))) * (w64 (s.X - (w64 (2500 * (w64 ((1 + ↑k : Int) - 1)))))))) + (w64 (s.Y * s.Y)))) ≤ R
      · simp [h3, h4]
      · simp [h3, h4]
  have hc : ∀ n : Int, (l.count n : Int) ≤ 8 := fun n => by have := List.count_le_length (a := n) (l := l); omega
  have c1 : (1 + ((0 : Nat) : Int)) = 1 := by omega
  have c2 : (1 + ((0 + 1 : Nat) : Int)) = 2 := by omega
  have c3 : (1 + ((0 + 1 + 1 : Nat) : Int)) = 3 := by omega
  have c4 : (1 + ((0 + 1 + 1 + 1 : Nat) : Int)) = 4 := by omega
  have c5 : (1 + ((0 + 1 + 1 + 1 + 1 : Nat) : Int)) = 5 := by omega
  have s0 := fun a x => step 0 a x (by omega)
  have s1 := fun a x => step (0 + 1) a x (by omega)
  have s2 := fun a x => step (0 + 1 + 1) a x (by omega)
  have s3 := fun a x => step (0 + 1 + 1 + 1) a x (by omega)
  have s4 := fun a x => step (0 + 1 + 1 + 1 + 1) a x (by omega)
  have g1 := hc 1; have g2 := hc 2; have g3 := hc 3; have g4 := hc 4; have g5 := hc 5
  rw [c1] at s0; rw [c2] at s1; rw [c3] at s2; rw [c4] at s3; rw [c5] at s4
  unfold forR'
  rw [if_pos (by omega)]
  show forN' _ 5 0 (0, 5) = _
  simp only [forN', c1, c2, c3, c4, c5]
  unfold forR' at s0 s1 s2 s3 s4
  rw [s0 _ _ (by omega) (by omega)]
  simp only
  rw [s1 _ _ (by omega) (by omega)]
  simp only
  rw [s2 _ _ (by omega) (by omega)]
  simp only
  rw [s3 _ _ (by omega) (by omega)]
  simp only
  rw [s4 _ _ (by omega) (by omega)]
  simp only
  unfold fPick cnt5
  congr 2
  omega
end Go.Proofs.Ytnllmignponhdaa
