/- The plain law of TargetFalls, the rest. -/
import Derived.Test.YtnllmignponhdaaPFalls
namespace Go.Proofs.Ytnllmignponhdaa
open Go.KL

def fIn (s : T_target_Shot) : Bool := (decide (-20000 ≤ s.X) && decide (s.X ≤ 20000)) && (decide (-20000 ≤ s.Y) && decide (s.Y ≤ 20000))
theorem within_eq (x a b : Int) : m_target_within x a b = some (decide (a ≤ x) && decide (x ≤ b)) := by
  unfold m_target_within
  by_cases h : a ≤ x <;> simp [h]
theorem outside_eq (x a b : Int) : m_klisterref03_outside x a b = some (decide (x < a) || decide (b < x)) := by
  unfold m_klisterref03_outside
  by_cases h : x < a <;> simp [h]
theorem falls1_eq (s : T_target_Shot) : m_target_Falls_1 s = some (fIn s) := by
  unfold m_target_Falls_1 fIn
  simp only [within_eq, Option.bind_some]
  by_cases h : (decide (-20000 ≤ s.X) && decide (s.X ≤ 20000)) = true
  · rw [h]; simp
  · have : (decide (-20000 ≤ s.X) && decide (s.X ≤ 20000)) = false := by simpa using h
    rw [this]; simp
theorem allShot_eq {l : List T_target_Shot} {f : T_target_Shot → Option Bool} {p : T_target_Shot → Bool} (hf : ∀ a, f a = some (p a)) (hn : l.length ≤ 9223372036854775807) : m_target_all_target_Shot l f = some (l.all p) := by
  unfold m_target_all_target_Shot m_slices_ContainsFunc_target_Shot_target_Shot m_slices_IndexFunc_target_Shot_target_Shot m_target_all_target_Shot_1
  have := loop_first (R := Int) (l := l) (f := fun x => (f x).bind fun x5 => some (!x5)) (p := fun a => !p a) (fun a _ => by rw [hf]; rfl) hn id
  simp only [id] at this
  rw [this]
  simp only [Option.bind_some, first_any]
  congr 1
  clear this hn
  induction l with
  | nil => rfl
  | cons a l ih => rw [List.any_cons, List.all_cons, ← ih]; cases p a <;> simp
/-- Both runs over the shots. -/
theorem falls_sim {R R2 : Int} (hR : w64 (R2 * R2) = R) {shots : List T_target_Shot} (h8 : shots.length ≤ 8) :
    ∃ (l : List Int) (e : Int), (jn (forR 0 (↑shots.length : Int) (fun k110 (a104, x105, l106) =>
    (idx shots (↑k110 : Int)).bind fun x135 =>
    if x105 = 5 then
      esc (some ([], 9))
    else
      (forR' 1 (5 + 1) (fun k165 x164 =>
        (chk (1 + ↑k165 : Int) 6).bind fun _ =>
        if (a104.get ((1 + ↑k165 : Int).toNat)) = true then
          some x164
        else
          if (w64 ((w64 ((w64 (x135.X - (w64 (2500 * (w64 ((1 + ↑k165 : Int) - 1)))))) * (w64 (x135.X - (w64 (2500 * (w64 ((1 + ↑k165 : Int) - 1)))))))) + (w64 (x135.Y * x135.Y)))) ≤ (w64 (R2 * R2)) then
            some (1 + ↑k165 : Int)
          else
            some x164) 0).bind fun y170 =>
      if 0 < y170 then
        (chk y170 6).bind fun _ =>
        (app 8 l106 [y170]).bind fun x235 =>
        some (.inl ((a104.set y170.toNat true), w64 (x105 + 1), x235))
      else
        (app 8 l106 [y170]).bind fun x254 =>
        some (.inl (a104, x105, x254))) (((Arr.fill 6 false) : Arr Bool 6), (0 : Int), ([] : List Int))) fun (y271, y272, y273) =>
  some (y273, (0 : Int))) = some (l, e) ∧
  (jn (R := List Int × Int) (forR 0 (↑(shots.map refShot).length : Int) (fun k121 l117 =>
          (forR' 1 (5 + 1) (fun k153 (x151, x152) =>
            (idx (shots.map refShot) (↑k121 : Int)).bind fun x180 =>
            (forR' 0 (↑k121 : Int) (fun k205 (x203, b204) =>
              (chk (↑k205 : Int) l117.length).bind fun _ =>
              if (gd l117 k205) = (1 + ↑k153 : Int) then
                some (w64 (x203 - 1), false)
              else
                some (x203, b204)) (x152, decide ((w64 ((w64 ((w64 (x180.X - (w64 (2500 * (w64 ((1 + ↑k153 : Int) - 1)))))) * (w64 (x180.X - (w64 (2500 * (w64 ((1 + ↑k153 : Int) - 1)))))))) + (w64 (x180.Y * x180.Y)))) ≤ R))).bind fun (y210, y211) =>
            if y211 = true then
              some ((1 + ↑k153 : Int), y210)
            else
              some (x151, y210)) ((0 : Int), (5 : Int))).bind fun (y158, y159) =>
          if y159 = 0 then
            esc (some ([], 9))
          else
            (app 8 l117 [y158]).bind fun x298 =>
            some (.inl x298)) ([] : List Int)) fun y313 =>
        some (y313, (0 : Int))) = some (l, e) ∧ l.length ≤ 8 := by
  rw [List.length_map, forR_list (by omega), forR_list (by omega)]
  have sim := forN_sim (S := Arr Bool 6 × Int × List Int) (S' := List Int) (B := List Int × Int) (B' := List Int × Int)
    (body := fun k110 (a104, x105, l106) =>
    (idx shots (↑k110 : Int)).bind fun x135 =>
    if x105 = 5 then
      esc (some ([], 9))
    else
      (forR' 1 (5 + 1) (fun k165 x164 =>
        (chk (1 + ↑k165 : Int) 6).bind fun _ =>
        if (a104.get ((1 + ↑k165 : Int).toNat)) = true then
          some x164
        else
          if (w64 ((w64 ((w64 (x135.X - (w64 (2500 * (w64 ((1 + ↑k165 : Int) - 1)))))) * (w64 (x135.X - (w64 (2500 * (w64 ((1 + ↑k165 : Int) - 1)))))))) + (w64 (x135.Y * x135.Y)))) ≤ (w64 (R2 * R2)) then
            some (1 + ↑k165 : Int)
          else
            some x164) 0).bind fun y170 =>
      if 0 < y170 then
        (chk y170 6).bind fun _ =>
        (app 8 l106 [y170]).bind fun x235 =>
        some (.inl ((a104.set y170.toNat true), w64 (x105 + 1), x235))
      else
        (app 8 l106 [y170]).bind fun x254 =>
        some (.inl (a104, x105, x254)))
    (body' := fun k121 l117 =>
          (forR' 1 (5 + 1) (fun k153 (x151, x152) =>
            (idx (shots.map refShot) (↑k121 : Int)).bind fun x180 =>
            (forR' 0 (↑k121 : Int) (fun k205 (x203, b204) =>
              (chk (↑k205 : Int) l117.length).bind fun _ =>
              if (gd l117 k205) = (1 + ↑k153 : Int) then
                some (w64 (x203 - 1), false)
              else
                some (x203, b204)) (x152, decide ((w64 ((w64 ((w64 (x180.X - (w64 (2500 * (w64 ((1 + ↑k153 : Int) - 1)))))) * (w64 (x180.X - (w64 (2500 * (w64 ((1 + ↑k153 : Int) - 1)))))))) + (w64 (x180.Y * x180.Y)))) ≤ R))).bind fun (y210, y211) =>
            if y211 = true then
              some ((1 + ↑k153 : Int), y210)
            else
              some (x151, y210)) ((0 : Int), (5 : Int))).bind fun (y158, y159) =>
          if y159 = 0 then
            esc (some ([], 9))
          else
            (app 8 l117 [y158]).bind fun x298 =>
            some (.inl x298))
    (fun i s l => s.2.2 = l ∧ FInv i s.1 s.2.1 l) (fun b b' => b = ([], 9) ∧ b' = ([], 9)) shots.length 0 ((Arr.fill 6 false), 0, []) [] ⟨rfl, ?_⟩ ?_
  · revert sim
    generalize forN _ shots.length 0 _ = A
    generalize forN _ shots.length 0 _ = B
    intro sim
    match A, B, sim with
    | some (.inl (d, x, l)), some (.inl l'), ⟨h1, h2⟩ =>
      have h1 : l = l' := h1
      subst h1
      exact ⟨l, 0, rfl, rfl, by have := h2.len; omega⟩
    | some (.inr b), some (.inr b'), ⟨h1, h2⟩ => subst h1 h2; exact ⟨[], 9, rfl, rfl, by simp⟩
  · refine ⟨rfl, by simp, by simp, by simp [cnt5], fun n h1 h2 => ?_⟩
    have : n = 1 ∨ n = 2 ∨ n = 3 ∨ n = 4 ∨ n = 5 := by omega
    rcases this with rfl | rfl | rfl | rfl | rfl <;> rfl
  · rintro i ⟨d, x, l⟩ l' _ hi ⟨h1, F⟩
    have h1 : l = l' := h1
    subst h1
    have F : FInv i d x l := F
    have hil := F.len
    subst hil
    simp only [Nat.zero_add] at hi
    have hget : shots[l.length]? = some shots[l.length] := List.getElem?_eq_getElem hi
    have hget2 : (shots.map refShot)[l.length]? = some (refShot shots[l.length]) := by rw [List.getElem?_map, hget]; rfl
    simp only
    rw [ref_inner (by omega) hget2, idx_nat, hget]
    simp only [Option.bind_some]
    by_cases hx : x = 5
    · have hc : (5 : Int) - (cnt5 l : Int) = 0 := by have := F.cnt; omega
      rw [if_pos hx, if_pos hc]
      exact ⟨rfl, rfl⟩
    · have hc : ¬ (5 : Int) - (cnt5 l : Int) = 0 := by have := F.cnt; omega
      rw [if_neg hx, if_neg hc, falls_inner F.dn hR]
      obtain ⟨r1, r2, r3⟩ := fPick_range R shots[l.length] l
      generalize fPick R shots[l.length] l = q at r1 r2 r3
      have ha : app 8 l [q] = some (l ++ [q]) := app_ok (by simp; omega)
      have hcnt := cnt5_append l q r1 r2
      have hle := count_le1 F.one
      have base : ∀ {d' : Arr Bool 6} {x' : Int}, x' = cnt5 (l ++ [q]) → (∀ n : Nat, 1 ≤ n → n ≤ 5 → d'.get n = decide ((n : Int) ∈ l ++ [q])) → FInv (l.length + 1) d' x' (l ++ [q]) := by
        intro d' x' hx' hd'
        refine ⟨by simp, fun n hn => ?_, fun n hn => ?_, hx', hd'⟩
        · rcases List.mem_append.1 hn with h | h
          · exact F.rng n h
          · simp at h; subst h; exact ⟨r1, r2⟩
        · rw [List.count_append]
          by_cases e : n = q
          · subst e
            have : l.count n = 0 := List.count_eq_zero.2 (r3 hn)
            rw [this]; simp
          · have : [q].count n = 0 := by rw [List.count_eq_zero]; simp [e]
            rw [this]; exact F.one n hn
      simp only [Option.bind_some, ha]
      by_cases hq : 0 < q
      · rw [if_pos hq, chk_ok r1 (by omega)]
        simp only [Option.bind_some]
        refine ⟨rfl, base ?_ fun n n1 n2 => ?_⟩
        · have := F.cnt
          show w64 (x + 1) = _
          rw [if_pos hq] at hcnt
          rw [w64_in (by omega) (by omega)]; omega
        · have hg : (d.set q.toNat true).get n = if q.toNat = n then true else d.get n := by
            unfold Arr.get Arr.set
            have hl6 := d.h
            simp only [List.getD_eq_getElem?_getD, List.getElem?_set]
            by_cases e : q.toNat = n
            · rw [if_pos e, if_pos e, if_pos (by omega)]; rfl
            · rw [if_neg e, if_neg e]
          rw [hg, F.dn n n1 n2]
          by_cases e : q.toNat = n
          · have : (n : Int) = q := by omega
            rw [if_pos e]; simp [this]
          · have : ¬ (n : Int) = q := by omega
            rw [if_neg e]; simp [this]
      · rw [if_neg hq]
        refine ⟨rfl, base ?_ fun n n1 n2 => ?_⟩
        · have := F.cnt
          show x = _
          rw [if_neg hq] at hcnt
          omega
        · rw [F.dn n n1 n2]
          have : ¬ (n : Int) = q := by omega
          simp [this]
/-- What the two texts answer. -/
theorem falls_both (p : Int) (shots : List T_target_Shot) (hn : shots.length ≤ 12) : ∃ l e, m_target_Falls p shots = some (l, e) ∧ m_klisterref03_Falls p (shots.map refShot) = some (l, e) ∧ l.length ≤ 8 := by
  have hall := allShot_eq (l := shots) (p := fIn) falls1_eq (by omega)
  have href : ∀ {K : Unit → Option (List Int × Int)}, jn (forR 0 (↑(shots.map refShot).length : Int) (fun k22 (_ : Unit) =>
        (idx (shots.map refShot) (↑k22 : Int)).bind fun x41 =>
        (m_klisterref03_outside x41.X (-20000) 20000).bind fun x50 =>
        if x50 = true then
          esc (some (([] : List Int), (3 : Int)))
        else
          (m_klisterref03_outside x41.Y (-20000) 20000).bind fun x73 =>
          if x73 = true then
            esc (some ([], 3))
          else
            some (.inl ())) ()) K = if shots.all fIn = true then K () else some ([], 3) := by
    intro K
    have := loop_all (l := shots.map refShot) (R := List Int × Int) (p := fun s => (decide (-20000 ≤ s.X) && decide (s.X ≤ 20000)) && (decide (-20000 ≤ s.Y) && decide (s.Y ≤ 20000))) (z := ([], 3)) (K := K)
      (g := fun x41 => (m_klisterref03_outside x41.X (-20000) 20000).bind fun x50 =>
        if x50 = true then
          esc (some (([] : List Int), (3 : Int)))
        else
          (m_klisterref03_outside x41.Y (-20000) 20000).bind fun x73 =>
          if x73 = true then
            esc (some ([], 3))
          else
            some (.inl ())) (fun a _ => by
        simp only [outside_eq, Option.bind_some]
        by_cases h1 : a.X < -20000
        · have : ¬ -20000 ≤ a.X := by omega
          simp [h1, this]
        · have h1' : -20000 ≤ a.X := by omega
          by_cases h2 : 20000 < a.X
          · have : ¬ a.X ≤ 20000 := by omega
            simp [h1, h2, this]
          · have h2' : a.X ≤ 20000 := by omega
            by_cases h3 : a.Y < -20000
            · have : ¬ -20000 ≤ a.Y := by omega
              simp [h1, h2, h3, this]
            · have h3' : -20000 ≤ a.Y := by omega
              by_cases h4 : 20000 < a.Y
              · have : ¬ a.Y ≤ 20000 := by omega
                simp [h1, h2, h3, h4, this]
              · have h4' : a.Y ≤ 20000 := by omega
                simp [h1, h2, h3, h4, h1', h2', h3', h4']) (by simp; omega)
    rw [this, List.all_map]
    rfl
  unfold m_target_Falls m_klisterref03_Falls
  rw [outside_eq p 0 1, Option.bind_some]
  by_cases h0 : p = 0
  · subst h0
    rw [if_pos rfl]
    have hr : (decide ((0 : Int) < 0) || decide ((1 : Int) < 0)) = false := by decide
    rw [hr]
    by_cases h8 : 8 < (↑shots.length : Int)
    · rw [if_pos h8]
      have h8' : 8 < (↑(shots.map refShot).length : Int) := by simpa using h8
      rw [if_neg (by decide), if_pos h8']
      exact ⟨[], 2, rfl, rfl, by simp⟩
    · rw [if_neg h8]
      have h8' : ¬ 8 < (↑(shots.map refShot).length : Int) := by simpa using h8
      rw [if_neg (by decide), if_neg h8', href, hall, Option.bind_some]
      by_cases ha : shots.all fIn = true
      · rw [if_pos ha, if_pos ha]
        rw [jn_some_inl, if_neg (by decide)]
        have hR : w64 ((225 : Int) * 225) = 50625 := by decide
        obtain ⟨l, e, h1, h2, h3⟩ := falls_sim hR (shots := shots) (by omega)
        refine ⟨l, e, ?_, h2, h3⟩
        have hi : idx ([225, 575] : List Int) 0 = some 225 := rfl
        rw [hi, Option.bind_some]
        exact h1
      · rw [if_neg ha, if_neg ha]
        exact ⟨[], 3, rfl, rfl, by simp⟩
  · rw [if_neg h0]
    by_cases h1 : p = 1
    · subst h1
      rw [if_pos rfl]
      have hr : (decide ((1 : Int) < 0) || decide ((1 : Int) < 1)) = false := by decide
      rw [hr]
      by_cases h8 : 8 < (↑shots.length : Int)
      · rw [if_pos h8]
        have h8' : 8 < (↑(shots.map refShot).length : Int) := by simpa using h8
        rw [if_neg (by decide), if_pos h8']
        exact ⟨[], 2, rfl, rfl, by simp⟩
      · rw [if_neg h8]
        have h8' : ¬ 8 < (↑(shots.map refShot).length : Int) := by simpa using h8
        rw [if_neg (by decide), if_neg h8', href, hall, Option.bind_some]
        by_cases ha : shots.all fIn = true
        · rw [if_pos ha, if_pos ha]
          rw [jn_some_inl, if_pos rfl]
          have hR : w64 ((575 : Int) * 575) = 330625 := by decide
          obtain ⟨l, e, h1, h2, h3⟩ := falls_sim hR (shots := shots) (by omega)
          refine ⟨l, e, ?_, h2, h3⟩
          have hi : idx ([225, 575] : List Int) 1 = some 575 := rfl
          rw [hi, Option.bind_some]
          exact h1
        · rw [if_neg ha, if_neg ha]
          exact ⟨[], 3, rfl, rfl, by simp⟩
    · rw [if_neg h1]
      have hr : (decide (p < 0) || decide (1 < p)) = true := by
        by_cases q : p < 0
        · simp [q]
        · have : 1 < p := by omega
          simp [this]
      rw [hr, if_pos rfl]
      exact ⟨[], 3, rfl, rfl, by simp⟩
def pos5 (l : List Int) : Nat := l.countP fun n => decide (0 < n)
theorem loops_loop {l : List Int} (hl : l.length ≤ 8) : (forR' 0 (↑l.length : Int) (fun k23 x22 =>
      (chk (↑k23 : Int) l.length).bind fun _ =>
      if 0 < (gd l k23) then
        some (w64 (x22 - 1))
      else
        some x22) (5 : Int)) = some (5 - (pos5 l : Int)) := by
  rw [forR'_list (by omega)]
  have key : ∀ (m k : Nat) (x : Int), k + m = l.length → -100 ≤ x - m → x ≤ 100 → (forN' (fun k23 x22 =>
      (chk (↑k23 : Int) l.length).bind fun _ =>
      if 0 < (gd l k23) then
        some (w64 (x22 - 1))
      else
        some x22) m k x) = some (x - (pos5 (l.drop k) : Int)) := by
    intro m
    induction m with
    | zero => intro k x hk _ _; rw [List.drop_eq_nil_of_le (by omega)]; simp [forN', pos5]
    | succ m ih =>
      intro k x hk h1 h2
      have hlt : k < l.length := by omega
      have e : l.drop k = l[k] :: l.drop (k + 1) := List.drop_eq_getElem_cons hlt
      rw [e, forN', chk_ok (by omega) (by omega)]
      simp only [Option.bind_some]
      have hg : gd l k = l[k] := by unfold gd; rw [List.getD_eq_getElem?_getD, List.getElem?_eq_getElem hlt]; rfl
      rw [hg]
      unfold pos5 at ih ⊢
      rw [List.countP_cons]
      by_cases hp : 0 < l[k]
      · rw [if_pos hp, w64_in (by omega) (by omega)]
        simp only
        rw [ih (k + 1) (x - 1) (by omega) (by omega) (by omega)]
        have : decide (0 < l[k]) = true := by simpa using hp
        rw [if_pos this]
        congr 1; omega
      · rw [if_neg hp]
        simp only
        rw [ih (k + 1) x (by omega) (by omega) (by omega)]
        have : ¬ decide (0 < l[k]) = true := by simpa using hp
        rw [if_neg this]
        rfl
  have := key l.length 0 5 (by omega) (by omega) (by omega)
  simpa using this
theorem law_loop {l : List Int} (hl : l.length ≤ 8) : (forR' 0 (↑l.length : Int) (fun k196 (x194, x195) =>
            (idx l (↑k196 : Int)).bind fun x223 =>
            if 0 < x223 then
              if 4 < (↑k196 : Int) then
                some (w64 (x194 - 1), w64 (x195 + 1))
              else
                some (w64 (x194 - 1), x195)
            else
              if 4 < (↑k196 : Int) then
                some (x194, w64 (x195 + 1))
              else
                some (x194, x195)) ((5 : Int), (0 : Int))) = some (5 - (pos5 l : Int), max 0 (w64 ((↑l.length : Int) - 5))) := by
  rw [forR'_list (by omega), w64_in (by omega) (by omega)]
  have key : ∀ (m k : Nat) (x : Int), k + m = l.length → -100 ≤ x - m → x ≤ 100 → (forN' (fun k196 (x194, x195) =>
            (idx l (↑k196 : Int)).bind fun x223 =>
            if 0 < x223 then
              if 4 < (↑k196 : Int) then
                some (w64 (x194 - 1), w64 (x195 + 1))
              else
                some (w64 (x194 - 1), x195)
            else
              if 4 < (↑k196 : Int) then
                some (x194, w64 (x195 + 1))
              else
                some (x194, x195)) m k (x, max 0 ((k : Int) - 5))) = some (x - (pos5 (l.drop k) : Int), max 0 ((↑l.length : Int) - 5)) := by
    intro m
    induction m with
    | zero =>
      intro k x hk _ _
      rw [List.drop_eq_nil_of_le (by omega), show k = l.length from by omega]; simp [forN', pos5]
    | succ m ih =>
      intro k x hk h1 h2
      have hlt : k < l.length := by omega
      have e : l.drop k = l[k] :: l.drop (k + 1) := List.drop_eq_getElem_cons hlt
      rw [e, forN', idx_nat, List.getElem?_eq_getElem hlt]
      simp only [Option.bind_some]
      have hm : (if 4 < (↑k : Int) then w64 (max 0 ((k : Int) - 5) + 1) else max 0 ((k : Int) - 5)) = max 0 (((k + 1 : Nat) : Int) - 5) := by
        split
        · rw [w64_in (by omega) (by omega)]; omega
        · omega
      unfold pos5 at ih ⊢
      rw [List.countP_cons]
      by_cases hp : 0 < l[k]
      · have : decide (0 < l[k]) = true := by simpa using hp
        rw [if_pos hp, if_pos this]
        have hw : w64 (x - 1) = x - 1 := w64_in (by omega) (by omega)
        have := ih (k + 1) (x - 1) (by omega) (by omega) (by omega)
        rw [← hm] at this
        rw [hw]
        by_cases h4 : 4 < (↑k : Int)
        · rw [if_pos h4] at this ⊢
          simp only
          rw [this]; congr 2; omega
        · rw [if_neg h4] at this ⊢
          simp only
          rw [this]; congr 2; omega
      · have : ¬ decide (0 < l[k]) = true := by simpa using hp
        rw [if_neg hp, if_neg this]
        have := ih (k + 1) x (by omega) (by omega) (by omega)
        rw [← hm] at this
        by_cases h4 : 4 < (↑k : Int)
        · rw [if_pos h4] at this ⊢
          simp only
          rw [this]; rfl
        · rw [if_neg h4] at this ⊢
          simp only
          rw [this]; rfl
  have := key l.length 0 5 (by omega) (by omega) (by omega)
  rw [List.drop_zero, show max 0 (((0 : Nat) : Int) - 5) = 0 from by decide] at this
  exact this
/-- The law: for all shots it answers true. -/
theorem law_Falls (p : Int) (shots : List T_target_Shot) : m_klisterlaw03_TargetFalls p shots = some true := by
  unfold m_klisterlaw03_TargetFalls
  by_cases h12 : 12 < (↑shots.length : Int)
  · rw [if_pos h12]; rfl
  · rw [if_neg h12]
    have hl : shots.length ≤ 12 := by omega
    have hclone : m_klisterkit_Clone_target_Shot shots = some shots := by
      unfold m_klisterkit_Clone_target_Shot
      rw [app_ok (by simp; omega)]; rfl
    have hmap := loop_map (l := shots) (f := refShot) (bytes := 16) (g := fun x70 l40 => (app 16 l40 [(⟨x70.X, x70.Y⟩ : T_klisterref03_Shot)]).bind fun x91 => some x91) (fun a _ r => by
      cases h : app 16 r [refShot a] <;> simp [refShot] at h ⊢ <;> simp [h]) (by omega) (by omega)
    rw [hclone]
    simp only [Option.bind_some]
    rw [hmap]
    simp only [Option.bind_some]
    obtain ⟨l, e, h1, h2, h3⟩ := falls_both p shots hl
    have heq : m_klisterkit_Equal_int l l = some true := by
      have := loop_equal (l := l) (m := l) (by omega)
      unfold m_klisterkit_Equal_int
      rw [this]; simp
    have heqs : m_klisterkit_Equal_target_Shot shots shots = some true := by
      have := loop_equal (l := shots) (m := shots) (by omega)
      unfold m_klisterkit_Equal_target_Shot
      rw [this]; simp
    have hloops : m_target_Loops p shots = some (if e = 0 then 5 - (pos5 l : Int) else 0, e) := by
      unfold m_target_Loops
      rw [h1]
      simp only [Option.bind_some]
      by_cases he : e = 0
      · rw [if_pos he, if_pos he, loops_loop h3, he]; rfl
      · rw [if_neg he, if_neg he]
    have hspares : m_target_Spares p shots = some (if e = 0 then max 0 (w64 ((↑l.length : Int) - 5)) else 0, e) := by
      unfold m_target_Spares
      rw [h1]
      simp only [Option.bind_some]
      by_cases he : e = 0
      · rw [if_pos he, if_pos he, he]
      · rw [if_neg he, if_neg he]
    rw [h1, h2]
    simp only [Option.bind_some]
    rw [heq, hloops, hspares, heqs]
    simp only [Option.bind_some, if_true]
    by_cases he : e = 0
    · rw [if_pos he, law_loop h3]
      simp only [Option.bind_some, if_pos he, if_true]
      rfl
    · rw [if_neg he]
      simp only [if_neg he, if_true]
      rfl
end Go.Proofs.Ytnllmignponhdaa
