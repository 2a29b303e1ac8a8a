/- Which targets fall, as the program computes it. -/
import Derived.Test.YtjfffcjjlnmneaaGreatMod
import Derived.Test.YtjfffcjjlnmneaaGreatVL
namespace Go.Proofs.YtjfffcjjlnmneaaGreat
open Go.KL

/-- The distance, as both texts compute it. -/
def fD (s : T_target_Shot) (n : Int) : Int := w64 ((w64 ((w64 (s.X - (w64 (2500 * (w64 (n - 1)))))) * (w64 (s.X - (w64 (2500 * (w64 (n - 1)))))))) + (w64 (s.Y * s.Y)))
def fHit (R : Int) (s : T_target_Shot) (l : List Int) (n : Int) : Bool := !decide (n ∈ l) && decide (fD s n ≤ R)
/-- Which target falls: the last one that is near and stands. -/
def fPick (R : Int) (s : T_target_Shot) (l : List Int) : Int :=
  if fHit R s l 5 then 5 else if fHit R s l 4 then 4 else if fHit R s l 3 then 3 else if fHit R s l 2 then 2 else if fHit R s l 1 then 1 else 0
theorem fPick_range (R : Int) (s : T_target_Shot) (l : List Int) : 0 ≤ fPick R s l ∧ fPick R s l ≤ 5 ∧ (0 < fPick R s l → fPick R s l ∉ l) := by
  unfold fPick
  have h : ∀ n, fHit R s l n = true → n ∉ l := fun n hn => by
    unfold fHit at hn
    simp only [Bool.and_eq_true, Bool.not_eq_true', decide_eq_false_iff_not] at hn
    exact hn.1
  split
  · rename_i e; exact ⟨by omega, by omega, fun _ => h _ e⟩
  · split
    · rename_i e; exact ⟨by omega, by omega, fun _ => h _ e⟩
    · split
      · rename_i e; exact ⟨by omega, by omega, fun _ => h _ e⟩
      · split
        · rename_i e; exact ⟨by omega, by omega, fun _ => h _ e⟩
        · split
          · rename_i e; exact ⟨by omega, by omega, fun _ => h _ e⟩
          · exact ⟨by omega, by omega, fun e => by omega⟩
/-- How many targets have fallen. -/
def cnt5 (l : List Int) : Nat := l.count 1 + l.count 2 + l.count 3 + l.count 4 + l.count 5
theorem cnt5_append (l : List Int) (x : Int) (h0 : 0 ≤ x) (h5 : x ≤ 5) : cnt5 (l ++ [x]) = cnt5 l + if 0 < x then 1 else 0 := by
  unfold cnt5
  have : x = 0 ∨ x = 1 ∨ x = 2 ∨ x = 3 ∨ x = 4 ∨ x = 5 := by omega
  rcases this with rfl | rfl | rfl | rfl | rfl | rfl <;> simp [List.count_append] <;> omega
theorem count_le1 {l : List Int} (hn : ∀ n, 0 < n → l.count n ≤ 1) : cnt5 l ≤ 5 := by
  unfold cnt5
  have := hn 1 (by omega); have := hn 2 (by omega); have := hn 3 (by omega); have := hn 4 (by omega); have := hn 5 (by omega)
  omega

/-- What holds of what has fallen so far, in both runs. -/
structure FInv (i : Nat) (d : Arr Bool 6) (x : Int) (l : List Int) : Prop where
  len : l.length = i
  rng : ∀ n ∈ l, 0 ≤ n ∧ n ≤ 5
  one : ∀ n, 0 < n → l.count n ≤ 1
  cnt : x = cnt5 l
  dn : ∀ n : Nat, 1 ≤ n → n ≤ 5 → d.get n = decide ((n : Int) ∈ l)
theorem falls_inner {R : Int} {s : T_target_Shot} {d : Arr Bool 6} {l : List Int} (hd : ∀ n : Nat, 1 ≤ n → n ≤ 5 → d.get n = decide ((n : Int) ∈ l)) {R2 : Int} (hR : w64 (R2 * R2) = R) :
    (forR' 1 (5 + 1) (fun k165 x164 =>
        (chk (1 + ↑k165 : Int) 6).bind fun _ =>
        if (d.get ((1 + ↑k165 : Int).toNat)) = true then
          some x164
        else
          if (w64 ((w64 ((w64 (s.X - (w64 (2500 * (w64 ((1 + ↑k165 : Int) - 1)))))) * (w64 (s.X - (w64 (2500 * (w64 ((1 + ↑k165 : Int) - 1)))))))) + (w64 (s.Y * s.Y)))) ≤ (w64 (R2 * R2)) then
            some (1 + ↑k165 : Int)
          else
            some x164) 0) = some (fPick R s l) := by
  rw [hR]
  have step : ∀ (k : Nat) (x : Int), k < 5 → ((chk (1 + ↑k : Int) 6).bind fun _ =>
        if (d.get ((1 + ↑k : Int).toNat)) = true then
          some x
        else
          if (w64 ((w64 ((w64 (s.X - (w64 (2500 * (w64 ((1 + ↑k : Int) - 1)))))) * (w64 (s.X - (w64 (2500 * (w64 ((1 + ↑k : Int) - 1)))))))) + (w64 (s.Y * s.Y)))) ≤ R then
            some (1 + ↑k : Int)
          else
            some x) = some (if fHit R s l (1 + ↑k : Int) then (1 + ↑k : Int) else x) := by
    intro k x hk
    rw [chk_ok (by omega) (by omega)]
    simp only [Option.bind_some]
    have e : (1 + (k : Int)).toNat = k + 1 := by omega
    rw [e, hd (k + 1) (by omega) (by omega)]
    have e2 : ((k + 1 : Nat) : Int) = 1 + (k : Int) := by omega
    rw [e2]
    unfold fHit fD
    by_cases h1 : (1 + (k : Int)) ∈ l
    · simp [h1]
    · by_cases h2 : (w64 ((w64 ((w64 (s.X - (w64 (2500 * (w64 ((1 + ↑k : Int) - 1)))))) * (w64 (s.X - (w64 (2500 * (w64 ((1 + ↑k : Int) - 1)))))))) + (w64 (s.Y * s.Y)))) ≤ R
      · simp [h1, h2]
      · simp [h1, h2]
  unfold forR'
  rw [if_pos (by omega)]
  show forN' _ 5 0 0 = _
  simp only [forN', step 0 _ (by omega), step (0 + 1) _ (by omega), step (0 + 1 + 1) _ (by omega), step (0 + 1 + 1 + 1) _ (by omega), step (0 + 1 + 1 + 1 + 1) _ (by omega)]
  unfold fPick
  have c1 : (1 + ((0 : Nat) : Int)) = 1 := by omega
  have c2 : (1 + ((0 + 1 : Nat) : Int)) = 2 := by omega
  have c3 : (1 + ((0 + 1 + 1 : Nat) : Int)) = 3 := by omega
  have c4 : (1 + ((0 + 1 + 1 + 1 : Nat) : Int)) = 4 := by omega
  have c5 : (1 + ((0 + 1 + 1 + 1 + 1 : Nat) : Int)) = 5 := by omega
  rw [c1, c2, c3, c4, c5]
def fIn (s : T_target_Shot) : Bool := (decide (-20000 ≤ s.X) && decide (s.X ≤ 20000)) && (decide (-20000 ≤ s.Y) && decide (s.Y ≤ 20000))
theorem within_eq (x a b : Int) : m_target_within x a b = some (decide (a ≤ x) && decide (x ≤ b)) := by
  unfold m_target_within
  by_cases h : a ≤ x <;> simp [h]
theorem falls1_eq (s : T_target_Shot) : m_target_Falls_1 s = some (fIn s) := by
  unfold m_target_Falls_1 fIn
  simp only [within_eq, Option.bind_some]
  by_cases h : (decide (-20000 ≤ s.X) && decide (s.X ≤ 20000)) = true
  · rw [h]; simp
  · have : (decide (-20000 ≤ s.X) && decide (s.X ≤ 20000)) = false := by simpa using h
    rw [this]; simp
theorem allShot_eq {l : List T_target_Shot} {f : T_target_Shot → Option Bool} {p : T_target_Shot → Bool} (hf : ∀ a, f a = some (p a)) (hn : l.length ≤ 9223372036854775807) : m_target_all_target_Shot l f = some (l.all p) := by
  unfold m_target_all_target_Shot m_slices_ContainsFunc_target_Shot_target_Shot m_slices_IndexFunc_target_Shot_target_Shot m_target_all_target_Shot_1
  have := loop_first (R := Int) (l := l) (f := fun x => (f x).bind fun x5 => some (!x5)) (p := fun a => !p a) (fun a _ => by rw [hf]; rfl) hn id
  simp only [id] at this
  rw [this]
  simp only [Option.bind_some, first_any]
  congr 1
  clear this hn
  induction l with
  | nil => rfl
  | cons a l ih => rw [List.any_cons, List.all_cons, ← ih]; cases p a <;> simp
def pos5 (l : List Int) : Nat := l.countP fun n => decide (0 < n)
theorem loops_loop {l : List Int} (hl : l.length ≤ 8) : (forR' 0 (↑l.length : Int) (fun k23 x22 =>
      (chk (↑k23 : Int) l.length).bind fun _ =>
      if 0 < (gd l k23) then
        some (w64 (x22 - 1))
      else
        some x22) (5 : Int)) = some (5 - (pos5 l : Int)) := by
  rw [forR'_list (by omega)]
  have key : ∀ (m k : Nat) (x : Int), k + m = l.length → -100 ≤ x - m → x ≤ 100 → (forN' (fun k23 x22 =>
      (chk (↑k23 : Int) l.length).bind fun _ =>
      if 0 < (gd l k23) then
        some (w64 (x22 - 1))
      else
        some x22) m k x) = some (x - (pos5 (l.drop k) : Int)) := by
    intro m
    induction m with
    | zero => intro k x hk _ _; rw [List.drop_eq_nil_of_le (by omega)]; simp [forN', pos5]
    | succ m ih =>
      intro k x hk h1 h2
      have hlt : k < l.length := by omega
      have e : l.drop k = l[k] :: l.drop (k + 1) := List.drop_eq_getElem_cons hlt
      rw [e, forN', chk_ok (by omega) (by omega)]
      simp only [Option.bind_some]
      have hg : gd l k = l[k] := by unfold gd; rw [List.getD_eq_getElem?_getD, List.getElem?_eq_getElem hlt]; rfl
      rw [hg]
      unfold pos5 at ih ⊢
      rw [List.countP_cons]
      by_cases hp : 0 < l[k]
      · rw [if_pos hp, w64_in (by omega) (by omega)]
        simp only
        rw [ih (k + 1) (x - 1) (by omega) (by omega) (by omega)]
        have : decide (0 < l[k]) = true := by simpa using hp
        rw [if_pos this]
        congr 1; omega
      · rw [if_neg hp]
        simp only
        rw [ih (k + 1) x (by omega) (by omega) (by omega)]
        have : ¬ decide (0 < l[k]) = true := by simpa using hp
        rw [if_neg this]
        rfl
  have := key l.length 0 5 (by omega) (by omega) (by omega)
  simpa using this
/-- What falls by shots, one after the other; none: all five have fallen too early. -/
def fl (R : Int) : List T_target_Shot → List Int → Option (List Int)
  | [], l => some l
  | s :: r, l => if cnt5 l = 5 then none else fl R r (l ++ [fPick R s l])
def flr : Option (List Int) → List Int × Int
  | none => ([], 9)
  | some l => (l, 0)
theorem finv0 : FInv 0 (Arr.fill 6 false) 0 [] := by
  refine ⟨rfl, by simp, by simp, by simp [cnt5], fun n h1 h2 => ?_⟩
  have : n = 1 ∨ n = 2 ∨ n = 3 ∨ n = 4 ∨ n = 5 := by omega
  rcases this with rfl | rfl | rfl | rfl | rfl <;> rfl
theorem finv_step {R : Int} {s : T_target_Shot} {d : Arr Bool 6} {x : Int} {l : List Int} (F : FInv l.length d x l) (h8 : l.length ≤ 8) (hx : x ≠ 5) :
    (0 < fPick R s l → FInv (l.length + 1) (d.set (fPick R s l).toNat true) (w64 (x + 1)) (l ++ [fPick R s l])) ∧ (¬ 0 < fPick R s l → FInv (l.length + 1) d x (l ++ [fPick R s l])) := by
  obtain ⟨r1, r2, r3⟩ := fPick_range R s l
  generalize fPick R s l = q at r1 r2 r3
  have hcnt := cnt5_append l q r1 r2
  have hle := count_le1 F.one
  have base : ∀ {d' : Arr Bool 6} {x' : Int}, x' = cnt5 (l ++ [q]) → (∀ n : Nat, 1 ≤ n → n ≤ 5 → d'.get n = decide ((n : Int) ∈ l ++ [q])) → FInv (l.length + 1) d' x' (l ++ [q]) := by
    intro d' x' hx' hd'
    refine ⟨by simp, fun n hn => ?_, fun n hn => ?_, hx', hd'⟩
    · rcases List.mem_append.1 hn with h | h
      · exact F.rng n h
      · simp at h; subst h; exact ⟨r1, r2⟩
    · rw [List.count_append]
      by_cases e : n = q
      · subst e
        have : l.count n = 0 := List.count_eq_zero.2 (r3 hn)
        rw [this]; simp
      · have : [q].count n = 0 := by rw [List.count_eq_zero]; simp [e]
        rw [this]; exact F.one n hn
  refine ⟨fun hq => base ?_ fun n n1 n2 => ?_, fun hq => base ?_ fun n n1 n2 => ?_⟩
  · have := F.cnt
    rw [if_pos hq] at hcnt
    rw [w64_in (by omega) (by omega)]; omega
  · have hg : (d.set q.toNat true).get n = if q.toNat = n then true else d.get n := by
      unfold Arr.get Arr.set
      have hl6 := d.h
      simp only [List.getD_eq_getElem?_getD, List.getElem?_set]
      by_cases e : q.toNat = n
      · rw [if_pos e, if_pos e, if_pos (by omega)]; rfl
      · rw [if_neg e, if_neg e]
    rw [hg, F.dn n n1 n2]
    by_cases e : q.toNat = n
    · have : (n : Int) = q := by omega
      rw [if_pos e]; simp [this]
    · have : ¬ (n : Int) = q := by omega
      rw [if_neg e]; simp [this]
  · have := F.cnt
    rw [if_neg hq] at hcnt
    omega
  · rw [F.dn n n1 n2]
    have : ¬ (n : Int) = q := by omega
    simp [this]
theorem falls_rec {R R2 : Int} (hR : w64 (R2 * R2) = R) {shots : List T_target_Shot} (h8 : shots.length ≤ 8) : ∀ (m k : Nat) (d : Arr Bool 6) (x : Int) (l : List Int), k + m = shots.length → FInv k d x l →
    jn (forN (fun k110 (a104, x105, l106) =>
    (idx shots (↑k110 : Int)).bind fun x135 =>
    if x105 = 5 then
      esc (some ([], 9))
    else
      (forR' 1 (5 + 1) (fun k165 x164 =>
        (chk (1 + ↑k165 : Int) 6).bind fun _ =>
        if (a104.get ((1 + ↑k165 : Int).toNat)) = true then
          some x164
        else
          if (w64 ((w64 ((w64 (x135.X - (w64 (2500 * (w64 ((1 + ↑k165 : Int) - 1)))))) * (w64 (x135.X - (w64 (2500 * (w64 ((1 + ↑k165 : Int) - 1)))))))) + (w64 (x135.Y * x135.Y)))) ≤ (w64 (R2 * R2)) then
            some (1 + ↑k165 : Int)
          else
            some x164) 0).bind fun y170 =>
      if 0 < y170 then
        (chk y170 6).bind fun _ =>
        (app 8 l106 [y170]).bind fun x235 =>
        some (.inl ((a104.set y170.toNat true), w64 (x105 + 1), x235))
      else
        (app 8 l106 [y170]).bind fun x254 =>
        some (.inl (a104, x105, x254))) m k (d, x, l)) (fun (y271, y272, y273) => some (y273, (0 : Int))) = some (flr (fl R (shots.drop k) l))
  | 0, k, d, x, l, hk, _ => by rw [List.drop_eq_nil_of_le (by omega)]; rfl
  | m + 1, k, d, x, l, hk, F => by
    have ih := falls_rec (R2 := R2) hR h8 m (k + 1)
    have hlt : k < shots.length := by omega
    have hl := F.len
    rw [List.drop_eq_getElem_cons hlt, fl, forN]
    simp only
    rw [idx_nat, List.getElem?_eq_getElem hlt, Option.bind_some]
    by_cases hx : x = 5
    · rw [if_pos hx, if_pos (by have := F.cnt; omega)]
      rfl
    · rw [if_neg hx, if_neg (by have := F.cnt; omega), falls_inner F.dn hR, Option.bind_some]
      obtain ⟨r1, r2, r3⟩ := fPick_range R shots[k] l
      have ha : app 8 l [fPick R shots[k] l] = some (l ++ [fPick R shots[k] l]) := app_ok (by simp; omega)
      obtain ⟨s1, s2⟩ := finv_step (R := R) (s := shots[k]) (hl ▸ F) (by omega) hx
      rw [hl] at s1 s2
      by_cases hq : 0 < fPick R shots[k] l
      · rw [if_pos hq, chk_ok r1 (by omega), Option.bind_some, ha, Option.bind_some]
        exact ih _ _ _ (by omega) (s1 hq)
      · rw [if_neg hq, ha, Option.bind_some]
        exact ih _ _ _ (by omega) (s2 hq)
/-- What Falls answers at shots that lie on the plate. -/
theorem falls_is {p : Int} (hp : p = 0 ∨ p = 1) {shots : List T_target_Shot} (h8 : shots.length ≤ 8) (hin : shots.all fIn = true) : m_target_Falls p shots = some (flr (fl (if p = 0 then 50625 else 330625) shots [])) := by
  have hall := allShot_eq (l := shots) (p := fIn) falls1_eq (by omega)
  unfold m_target_Falls
  have h8' : ¬ 8 < (↑shots.length : Int) := by omega
  rcases hp with rfl | rfl
  · rw [if_pos rfl, if_neg h8', hall, hin, Option.bind_some, if_pos rfl, jn_some_inl, if_pos rfl]
    have hi : idx ([225, 575] : List Int) 0 = some 225 := rfl
    rw [hi, Option.bind_some, forR_list (by omega)]
    exact falls_rec (R := 50625) (by decide) h8 shots.length 0 _ _ _ (by omega) finv0
  · rw [if_neg (by decide), if_pos rfl, if_neg h8', hall, hin, Option.bind_some, if_pos rfl, jn_some_inl, if_neg (by decide)]
    have hi : idx ([225, 575] : List Int) 1 = some 575 := rfl
    rw [hi, Option.bind_some, forR_list (by omega)]
    exact falls_rec (R := 330625) (by decide) h8 shots.length 0 _ _ _ (by omega) finv0
theorem fl_snoc (R : Int) (a : T_target_Shot) : ∀ (s : List T_target_Shot) (l : List Int), fl R (s ++ [a]) l = (fl R s l).bind fun r => if cnt5 r = 5 then none else some (r ++ [fPick R a r])
  | [], l => by simp [fl]
  | b :: s, l => by
    rw [List.cons_append, fl, fl]
    split
    · rfl
    · exact fl_snoc R a s _
theorem fl_len {R : Int} : ∀ {s : List T_target_Shot} {l r : List Int}, fl R s l = some r → r.length = l.length + s.length
  | [], l, r, h => by cases h; simp
  | b :: s, l, r, h => by
    rw [fl] at h
    split at h
    · cases h
    · have := fl_len h
      simp at this ⊢
      omega
theorem fl_rng {R : Int} : ∀ {s : List T_target_Shot} {l r : List Int}, fl R s l = some r → (∀ n ∈ l, 0 ≤ n ∧ n ≤ 5) → ∀ n ∈ r, 0 ≤ n ∧ n ≤ 5
  | [], l, r, h, hl => by cases h; exact hl
  | b :: s, l, r, h, hl => by
    rw [fl] at h
    split at h
    · cases h
    · refine fl_rng h fun n hn => ?_
      rcases List.mem_append.1 hn with hn | hn
      · exact hl n hn
      · obtain ⟨r1, r2, _⟩ := fPick_range R b l
        simp at hn
        subst hn
        exact ⟨r1, r2⟩
theorem fl_one {R : Int} : ∀ {s : List T_target_Shot} {l r : List Int}, fl R s l = some r → (∀ n, 0 < n → l.count n ≤ 1) → ∀ n, 0 < n → r.count n ≤ 1
  | [], l, r, h, hl => by cases h; exact hl
  | b :: s, l, r, h, hl => by
    rw [fl] at h
    split at h
    · cases h
    · refine fl_one h fun n hn => ?_
      obtain ⟨_, _, r3⟩ := fPick_range R b l
      rw [List.count_append]
      by_cases e : n = fPick R b l
      · subst e
        rw [List.count_eq_zero.2 (r3 hn)]
        simp
      · rw [List.count_eq_zero (l := [fPick R b l]).2 (by simp [e])]
        exact hl n hn
theorem pos_cnt : ∀ {l : List Int}, (∀ n ∈ l, 0 ≤ n ∧ n ≤ 5) → pos5 l = cnt5 l
  | [], _ => rfl
  | a :: l, h => by
    have ih := pos_cnt (l := l) fun n hn => h n (by simp [hn])
    have h0 := h a (by simp)
    unfold pos5 cnt5 at ih ⊢
    rw [List.countP_cons, ih]
    have : a = 0 ∨ a = 1 ∨ a = 2 ∨ a = 3 ∨ a = 4 ∨ a = 5 := by omega
    rcases this with rfl | rfl | rfl | rfl | rfl | rfl <;> simp <;> omega
end Go.Proofs.YtjfffcjjlnmneaaGreat
