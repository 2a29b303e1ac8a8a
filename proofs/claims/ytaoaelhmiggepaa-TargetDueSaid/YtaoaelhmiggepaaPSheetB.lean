/- What the reference tries: all numbers of loops. -/
import Derived.Test.YtaoaelhmiggepaaPSheetR
import Derived.Test.YtaoaelhmiggepaaPSheetK
namespace Go.Proofs.Ytaoaelhmiggepaa
open Go.KL

theorem iter_run {S B : Type} {body : S → Option (S ⊕ B)} (F : Nat) : ∀ (m : Nat) (s : Nat → S), (∀ i, i < m → body (s i) = some (.inl (s (i + 1)))) → iter body (m + F) (s 0) = iter body F (s m)
  | 0, s, _ => by rw [Nat.zero_add]
  | m + 1, s, h => by
    rw [show m + 1 + F = (m + F) + 1 from by omega, iter, h 0 (by omega)]
    exact iter_run F m (fun i => s (i + 1)) fun i hi => h (i + 1) (by omega)
theorem iter_to {S B : Type} {body : S → Option (S ⊕ B)} {m : Nat} (s : Nat → S) (h : ∀ i, i < m → body (s i) = some (.inl (s (i + 1)))) {b : B} (hb : body (s m) = some (.inr b)) {s0 : S} (h0 : s 0 = s0) (hm : m < 1000) : iter body big s0 = some b := by
  subst h0
  have e : big = m + ((big - m - 1) + 1) := by unfold big; omega
  rw [e, iter_run _ m s h, iter, hb]

/-- Digits, the last one first. -/
def dig : Nat → Nat → List Int
  | 0, _ => []
  | m + 1, i => ((i % 10 : Nat) : Int) :: dig m (i / 10)
theorem dig_len : ∀ m i, (dig m i).length = m
  | 0, _ => rfl
  | m + 1, i => by simp [dig, dig_len m]
theorem dig_in : ∀ m i, ∀ d ∈ dig m i, 0 ≤ d ∧ d ≤ 9
  | 0, _ => fun d h => by cases h
  | m + 1, i => fun d h => by
    rcases List.mem_cons.1 h with h | h
    · omega
    · exact dig_in m _ d h
theorem dig_all : ∀ (m : Nat) (t : List Int), t.length = m → (∀ d ∈ t, 0 ≤ d ∧ d ≤ 9) → ∃ i, i < 10 ^ m ∧ dig m i = t
  | 0, t, h, _ => ⟨0, by simp, by rw [List.length_eq_zero_iff.1 h]; rfl⟩
  | m + 1, [], h, _ => by cases h
  | m + 1, d :: t, h, hd => by
    obtain ⟨i, h1, h2⟩ := dig_all m t (by simpa using h) fun d h => hd d (List.mem_cons_of_mem _ h)
    obtain ⟨d0, d9⟩ := hd d List.mem_cons_self
    refine ⟨i * 10 + d.toNat, by rw [Nat.pow_succ]; omega, ?_⟩
    rw [dig, show (i * 10 + d.toNat) / 10 = i by omega, h2, show (((i * 10 + d.toNat) % 10 : Nat) : Int) = d by omega]
theorem dig_loop : ∀ (m k i : Nat) (r : List Int), i < 1000000000 → r.length + m ≤ 1000 →
    forN' (fun (_ : Nat) (p : List Int × Int) => (rem p.2 10).bind fun x136 => (app 8 p.1 [x136]).bind fun x144 => (quo p.2 10).bind fun x152 => some (x144, x152)) m k (r, (i : Int)) = some (r ++ dig m i, ((i / 10 ^ m : Nat) : Int))
  | 0, k, i, r, _, _ => by simp [forN', dig]
  | m + 1, k, i, r, hi, hr => by
    have h1 : rem (i : Int) 10 = some ((i % 10 : Nat) : Int) := by
      unfold rem
      rw [if_neg (by decide), Int.tmod_eq_emod_of_nonneg (by omega)]
      congr 1
    have h2 : quo (i : Int) 10 = some ((i / 10 : Nat) : Int) := by
      unfold quo
      rw [if_neg (by decide), Int.tdiv_eq_ediv_of_nonneg (by omega), w64_in (by omega) (by omega)]
      congr 1
    rw [forN']
    simp only [h1, h2, Option.bind_some, app_ok (show (r.length + [((i % 10 : Nat) : Int)].length) * 8 ≤ 140737488355328 by simp only [List.length_cons, List.length_nil]; omega)]
    rw [dig_loop m (k + 1) (i / 10) _ (by omega) (by simp only [List.length_append, List.length_cons, List.length_nil]; omega)]
    rw [List.append_assoc, Nat.div_div_eq_div_mul, Nat.pow_succ, Nat.mul_comm]
    rfl

/-- A sheet that loops fit. -/
def sat (t : List Int) (s : T_target_Sheet) : Bool := decide (s.Loops.Lo ≤ pre t (s.To + 1).toNat - pre t s.From.toNat ∧ pre t (s.To + 1).toNat - pre t s.From.toNat ≤ s.Loops.Hi)

theorem sheet_step {n : Nat} (hn : n ≤ 8) {t : List Int} (ht : t.length = n) (hd : ∀ d ∈ t, 0 ≤ d ∧ d ≤ 9) {s : T_target_Sheet} (hs : okSheet n s) {j : Nat} (hj : j < 1000) {R : Type} :
    iter (S := Int × Int) (B := (Bool × Int) ⊕ R) (fun (x227, x228) =>
            if x228 ≤ (refSheet s).To then
              (chk x228 t.length).bind fun _ =>
              some (.inl (w64 (x227 + (gd t x228.toNat)), w64 (x228 + 1)))
            else
              esc ((m_klisterref03_outside x227 (refSheet s).Loops.Lo (refSheet s).Loops.Hi).bind fun x276 =>
              some (.inl (!x276, w64 ((j : Int) + 1))))) big (0, (refSheet s).From) = some (.inl (sat t s, ((j + 1 : Nat) : Int))) := by
  obtain ⟨s0, s1, s2, s3, s4, s5⟩ := hs
  have hT : (refSheet s).To = s.To := rfl
  have hF : (refSheet s).From = s.From := rfl
  have hL : (refSheet s).Loops = s.Loops := rfl
  rw [hT, hF, hL]
  refine iter_to (m := (s.To + 1 - s.From).toNat) (fun i => (pre t (s.From.toNat + i) - pre t s.From.toNat, s.From + i)) (fun i hi => ?_) ?_ (by simp) (by omega)
  · have hlt : s.From.toNat + i < t.length := by omega
    have e : (s.From + (i : Int)).toNat = s.From.toNat + i := by omega
    have b1 := pre_bnd hd (s.From.toNat + i) (by omega)
    have b2 := pre_bnd hd s.From.toNat (by omega)
    have b3 := hd _ (List.getElem_mem hlt)
    simp only
    rw [if_pos (by omega), chk_ok (by omega) (by omega), Option.bind_some, e, gd_lt hlt, w64_in (by omega) (by omega), w64_in (by omega) (by omega)]
    congr 3
    · rw [show s.From.toNat + (i + 1) = s.From.toNat + i + 1 from rfl, pre_succ hlt]
      omega
    · omega
  · simp only
    rw [if_neg (by omega), outside_is, Option.bind_some, w64_in (by omega) (by omega)]
    have e : s.From.toNat + (s.To + 1 - s.From).toNat = (s.To + 1).toNat := by omega
    rw [e]
    have e2 : (!decide (pre t (s.To + 1).toNat - pre t s.From.toNat < s.Loops.Lo ∨ s.Loops.Hi < pre t (s.To + 1).toNat - pre t s.From.toNat)) = sat t s := by
      unfold sat
      by_cases h : s.Loops.Lo ≤ pre t (s.To + 1).toNat - pre t s.From.toNat ∧ pre t (s.To + 1).toNat - pre t s.From.toNat ≤ s.Loops.Hi
      · rw [decide_eq_true h, decide_eq_false (by omega)]; rfl
      · rw [decide_eq_false h, decide_eq_true (by omega)]; rfl
    rw [e2]
    rfl

theorem sheets_run {n : Nat} (hn : n ≤ 8) {t : List Int} (ht : t.length = n) (hd : ∀ d ∈ t, 0 ≤ d ∧ d ≤ 9) {l : List T_target_Sheet} (hl : l.length ≤ 20) (hs : ∀ s ∈ l, okSheet n s) {r : List (List Int)} (hr : r.length ≤ 100000) :
    iter (S := Bool × Int) (B := List (List Int)) (fun (b186, x187) =>
      if x187 < (↑(l.map refSheet).length : Int) then
        if b186 = true then
          (idx (l.map refSheet) x187).bind fun x210 =>
          iter (fun (x227, x228) =>
            if x228 ≤ x210.To then
              (chk x228 t.length).bind fun _ =>
              some (.inl (w64 (x227 + (gd t x228.toNat)), w64 (x228 + 1)))
            else
              esc ((m_klisterref03_outside x227 x210.Loops.Lo x210.Loops.Hi).bind fun x276 =>
              some (.inl (!x276, w64 (x187 + 1))))) big (0, x210.From)
        else
          esc (some r)
      else
        esc (if b186 = true then
          (app 24 r [t]).bind fun x315 =>
          some x315
        else
          some r)) big (true, 0) = some (if l.all (sat t) = true then r ++ [t] else r) := by
  rw [List.length_map]
  have key : ∀ (m j F : Nat), j + m = l.length → iter (S := Bool × Int) (B := List (List Int)) (fun (b186, x187) =>
      if x187 < (↑l.length : Int) then
        if b186 = true then
          (idx (l.map refSheet) x187).bind fun x210 =>
          iter (fun (x227, x228) =>
            if x228 ≤ x210.To then
              (chk x228 t.length).bind fun _ =>
              some (.inl (w64 (x227 + (gd t x228.toNat)), w64 (x228 + 1)))
            else
              esc ((m_klisterref03_outside x227 x210.Loops.Lo x210.Loops.Hi).bind fun x276 =>
              some (.inl (!x276, w64 (x187 + 1))))) big (0, x210.From)
        else
          esc (some r)
      else
        esc (if b186 = true then
          (app 24 r [t]).bind fun x315 =>
          some x315
        else
          some r)) (m + (F + 2)) (true, (j : Int)) = some (if (l.drop j).all (sat t) = true then r ++ [t] else r) := by
    intro m
    induction m with
    | zero =>
      intro j F hj
      rw [Nat.zero_add, iter]
      simp only
      rw [if_neg (by omega), if_pos trivial, app_ok (by simp only [List.length_cons, List.length_nil]; omega), List.drop_eq_nil_of_le (by omega)]
      rfl
    | succ m ih =>
      intro j F hj
      have hlt : j < l.length := by omega
      have hstep := sheet_step hn ht hd (hs _ (List.getElem_mem hlt)) (j := j) (by omega) (R := List (List Int))
      rw [show m + 1 + (F + 2) = (m + (F + 2)) + 1 from by omega, iter]
      simp only
      rw [if_pos (by omega), if_pos trivial, idx_nat, List.getElem?_map, List.getElem?_eq_getElem hlt]
      simp only [Option.map_some, Option.bind_some]
      rw [hstep, List.drop_eq_getElem_cons hlt, List.all_cons]
      simp only
      by_cases h : sat t l[j] = true
      · rw [h, Bool.true_and]
        exact ih (j + 1) F (by omega)
      · have h' : sat t l[j] = false := by simpa using h
        rw [h', Bool.false_and, if_neg (by decide), show m + (F + 2) = (m + F + 1) + 1 from by omega, iter]
        simp only
        by_cases hl : ((j + 1 : Nat) : Int) < l.length
        · rw [if_pos hl, if_neg (by decide)]
          rfl
        · rw [if_neg hl, if_neg (by decide)]
          rfl
  have := key l.length 0 (big - l.length - 2) (by omega)
  rw [show l.length + (big - l.length - 2 + 2) = big from by unfold big; omega] at this
  exact this

theorem pow_loop {n : Nat} (hn : n ≤ 3) : forR' 0 (n : Int) (fun _ x6 => some (w64 (10 * x6))) 1 = some ((10 ^ n : Nat) : Int) := by
  rw [forR'_list (by omega)]
  have : n = 0 ∨ n = 1 ∨ n = 2 ∨ n = 3 := by omega
  rcases this with rfl | rfl | rfl | rfl <;> rfl

/-- The numbers of loops that the reference finds. -/
theorem truths_eq {n : Nat} (hn : n ≤ 3) {l : List T_target_Sheet} (hl : l.length ≤ 20) (hs : ∀ s ∈ l, okSheet n s) :
    ∃ T, m_klisterref03_Truths (n : Int) (l.map refSheet) = some T ∧ T.length ≤ 1000 ∧ ∀ t, t ∈ T ↔ t.length = n ∧ (∀ d ∈ t, 0 ≤ d ∧ d ≤ 9) ∧ l.all (sat t) = true := by
  unfold m_klisterref03_Truths
  have hp : 10 ^ n ≤ 10 ^ 3 := Nat.pow_le_pow_right (by decide) hn
  rw [pow_loop hn, Option.bind_some, forR'_list (by omega)]
  obtain ⟨T, g1, g2⟩ := forN'_inv (S := List (List Int)) (body := fun k62 l57 =>
    (forR' 0 (n : Int) (fun k108 (l103, x107) =>
      (rem x107 10).bind fun x136 =>
      (app 8 l103 [x136]).bind fun x144 =>
      (quo x107 10).bind fun x152 =>
      some (x144, x152)) ([], (↑k62 : Int))).bind fun (y113, y114) =>
    iter (fun (b186, x187) =>
      if x187 < (↑(l.map refSheet).length : Int) then
        if b186 = true then
          (idx (l.map refSheet) x187).bind fun x210 =>
          iter (fun (x227, x228) =>
            if x228 ≤ x210.To then
              (chk x228 y113.length).bind fun _ =>
              some (.inl (w64 (x227 + (gd y113 x228.toNat)), w64 (x228 + 1)))
            else
              esc ((m_klisterref03_outside x227 x210.Loops.Lo x210.Loops.Hi).bind fun x276 =>
              some (.inl (!x276, w64 (x187 + 1))))) big (0, x210.From)
        else
          esc (some l57)
      else
        esc (if b186 = true then
          (app 24 l57 [y113]).bind fun x315 =>
          some x315
        else
          some l57)) big (true, 0)) (fun k T => T.length ≤ k ∧ ∀ t, t ∈ T ↔ ∃ i, i < k ∧ t = dig n i ∧ l.all (sat t) = true) (10 ^ n) 0 []
    ⟨Nat.le_refl _, fun t => ⟨fun h => (by cases h), fun ⟨i, h, _⟩ => (by omega)⟩⟩
    (by
      intro i T _ hi ⟨c1, c2⟩
      have hd := dig_loop n 0 i [] (by omega) (by simp only [List.length_nil]; omega)
      rw [List.nil_append] at hd
      rw [forR'_list (by omega)]
      have hd' : forN' (fun (k108 : Nat) ((l103, x107) : List Int × Int) =>
      (rem x107 10).bind fun x136 =>
      (app 8 l103 [x136]).bind fun x144 =>
      (quo x107 10).bind fun x152 =>
      some (x144, x152)) n 0 ([], (↑i : Int)) = some (dig n i, ((i / 10 ^ n : Nat) : Int)) := hd
      rw [hd', Option.bind_some]
      simp only
      rw [sheets_run (by omega) (dig_len n i) (dig_in n i) hl hs (by omega)]
      refine ⟨_, rfl, ?_, fun t => ?_⟩
      · split
        · simp only [List.length_append, List.length_cons, List.length_nil]; omega
        · omega
      · by_cases h : l.all (sat (dig n i)) = true
        · rw [if_pos h, List.mem_append, List.mem_singleton, c2]
          constructor
          · rintro (⟨j, h1, h2⟩ | rfl)
            · exact ⟨j, by omega, h2⟩
            · exact ⟨i, by omega, rfl, h⟩
          · rintro ⟨j, h1, h2, h3⟩
            by_cases e : j = i
            · subst e; exact .inr h2
            · exact .inl ⟨j, by omega, h2, h3⟩
        · rw [if_neg h, c2]
          constructor
          · rintro ⟨j, h1, h2⟩
            exact ⟨j, by omega, h2⟩
          · rintro ⟨j, h1, h2, h3⟩
            by_cases e : j = i
            · subst e; subst h2; exact absurd h3 h
            · exact ⟨j, by omega, h2, h3⟩)
  rw [g1]
  refine ⟨T, rfl, by omega, fun t => ?_⟩
  rw [g2.2]
  constructor
  · rintro ⟨i, h1, rfl, h3⟩
    exact ⟨dig_len n i, dig_in n i, h3⟩
  · rintro ⟨h1, h2, h3⟩
    obtain ⟨i, h4, h5⟩ := dig_all n t h1 h2
    exact ⟨i, by omega, h5.symm, h3⟩
end Go.Proofs.Ytaoaelhmiggepaa
