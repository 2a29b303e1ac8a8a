/- The plain law of RelayTargets. -/
import Derived.Test.YtjfffcjjlnmneaaGreatPFallA
import Derived.Test.YtjfffcjjlnmneaaGreatPDeck
namespace Go.Proofs.YtjfffcjjlnmneaaGreat
open Go.KL

def inB (n lo hi : Int) : Bool := decide (lo ≤ n ∧ n ≤ hi)
theorem in_is (n lo hi : Int) : m_relay_in n lo hi = some (inB n lo hi) := by
  unfold m_relay_in inB
  by_cases h : lo ≤ n
  · rw [if_pos h]; simp [h]
  · rw [if_neg h]; simp [h]
/-- What comes of a bout. -/
def hitsTo : List Bool → Nat → Option Nat
  | [], k => some k
  | b :: l, k => if k = 5 then none else hitsTo l (k + if b = true then 1 else 0)
theorem hitsTo_le : ∀ (l : List Bool) (k m : Nat), k ≤ 5 → hitsTo l k = some m → k ≤ m ∧ m ≤ 5
  | [], k, m, hk, h => by cases h; omega
  | b :: l, k, m, hk, h => by
    rw [hitsTo] at h
    split at h
    · cases h
    · have := hitsTo_le l _ m (by split <;> omega) h
      split at this <;> omega
theorem prog_loop {l : List Bool} {R : Type} (z : R) (K : Int → Option R) : ∀ (m k h : Nat), k + m = l.length → h ≤ 5 →
    jn (forN (fun k23 (x22 : Int) => (idx l (↑k23 : Int)).bind fun x45 => if x22 = 0 then esc (some z) else if x45 = true then some (.inl (w64 (x22 - 1))) else some (.inl x22)) m k (5 - (h : Int))) K =
      (match hitsTo (l.drop k) h with | none => some z | some m => K (5 - (m : Int)))
  | 0, k, h, hk, _ => by rw [List.drop_eq_nil_of_le (by omega)]; rfl
  | m + 1, k, h, hk, h5 => by
    have hlt : k < l.length := by omega
    rw [List.drop_eq_getElem_cons hlt, hitsTo, forN, idx_nat, List.getElem?_eq_getElem hlt]
    simp only [Option.bind_some]
    by_cases hz : h = 5
    · rw [if_pos (by omega), if_pos hz]; rfl
    · rw [if_neg (by omega), if_neg hz]
      by_cases hb : l[k] = true
      · rw [if_pos hb, if_pos hb, w64_in (by omega) (by omega)]
        have := prog_loop (l := l) z K m (k + 1) (h + 1) (by omega) (by omega)
        rw [show (5 : Int) - ((h + 1 : Nat) : Int) = 5 - (h : Int) - 1 by omega] at this
        exact this
      · rw [if_neg hb, if_neg hb]
        exact prog_loop (l := l) z K m (k + 1) h (by omega) h5
theorem shot_is {l : List Bool} {m : Nat} (h1 : 5 ≤ l.length) (h2 : l.length ≤ 8) (hq : hitsTo l 0 = some m) : m_relay_Shot l = some (⟨(l.length : Int) - 5, 5 - (m : Int), if m < 5 then 8 - (l.length : Int) else 0⟩, 0) := by
  unfold m_relay_Shot
  have hi : inB l.length 5 8 = true := by unfold inB; simp; omega
  rw [in_is, Option.bind_some, hi, if_pos rfl, forR_list (by omega)]
  have := prog_loop (l := l) (R := T_relay_Shooting × Int) ((⟨0, 0, 0⟩ : T_relay_Shooting), 8) (fun y72 => if 0 < y72 then
      some ((⟨w64 ((↑l.length : Int) - 5), y72, w64 (8 - (↑l.length : Int))⟩ : T_relay_Shooting), 0)
    else
      some ((⟨w64 ((↑l.length : Int) - 5), y72, 0⟩ : T_relay_Shooting), 0)) l.length 0 0 (by omega) (by omega)
  rw [List.drop_zero] at this
  have e : (5 : Int) - ((0 : Nat) : Int) = 5 := by omega
  rw [e] at this
  rw [this, hq]
  have := hitsTo_le l 0 m (by omega) hq
  simp only
  rw [w64_in (by omega) (by omega), w64_in (by omega) (by omega)]
  by_cases hm : m < 5
  · rw [if_pos (by omega), if_pos hm]
  · rw [if_neg (by omega), if_neg hm]
/-- The rounds by which a target falls. -/
def rounds (r : List Int) : List Bool := r.map fun n => decide (0 < n)
theorem fl_hits {R : Int} : ∀ {s : List T_target_Shot} {l r : List Int}, fl R s l = some r → ∃ t, r = l ++ t ∧ hitsTo (rounds t) (cnt5 l) = some (cnt5 r)
  | [], l, r, h => by cases h; exact ⟨[], by simp, rfl⟩
  | a :: s, l, r, h => by
    rw [fl] at h
    split at h
    · cases h
    · rename_i hc
      obtain ⟨t, rfl, h2⟩ := fl_hits h
      obtain ⟨r1, r2, _⟩ := fPick_range R a l
      refine ⟨fPick R a l :: t, by simp, ?_⟩
      show (if cnt5 l = 5 then none else hitsTo (rounds t) _) = _
      rw [if_neg hc, ← h2, cnt5_append l _ r1 r2]
      congr 1
      by_cases hq : 0 < fPick R a l <;> simp [hq]
def finT (p : Int) (l : List T_target_Shot) : Option Bool :=
  (m_target_Falls p l).bind fun (x552, x553) =>
  (m_target_Loops p l).bind fun (x567, x568) =>
  (m_target_Spares p l).bind fun (x579, x580) =>
  if x553 = 0 then
    if x568 = 0 then
      if x580 = 0 then
        if (↑x552.length : Int) = (↑l.length : Int) then
          if (↑l.length : Int) < 5 then
            some false
          else
            (forR' 0 (↑x552.length : Int) (fun k627 l623 =>
              (chk (↑k627 : Int) x552.length).bind fun _ =>
              (app 1 l623 [decide (0 < (gd x552 k627))]).bind fun x663 =>
              some x663) []).bind fun y632 =>
            (m_relay_Shot y632).bind fun (x698, x699) =>
            if x699 = 0 then
              if x698.Loops = x567 then
                if x698.Spares = x579 then
                  if 0 < x567 then
                    if ((decide (0 < x698.Unused)) == (decide ((↑l.length : Int) < 8))) = true then
                      (m_klisterlaw08_awake).bind fun x726 =>
                      some x726
                    else
                      some false
                  else
                    if ((decide (0 < x698.Unused)) == false) = true then
                      (m_klisterlaw08_awake).bind fun x740 =>
                      some x740
                    else
                      some false
                else
                  some false
              else
                some false
            else
              some false
        else
          some false
      else
        some false
    else
      some false
  else
    some false
theorem rounds_loop {r : List Int} (hr : r.length ≤ 100) : (forR' 0 (↑r.length : Int) (fun k627 l623 =>
              (chk (↑k627 : Int) r.length).bind fun _ =>
              (app 1 l623 [decide (0 < (gd r k627))]).bind fun x663 =>
              some x663) []) = some (rounds r) := by
  rw [forR'_list (by omega)]
  have key : ∀ (m k : Nat) (o : List Bool), k + m = r.length → o.length = k → forN' (fun k627 l623 =>
              (chk (↑k627 : Int) r.length).bind fun _ =>
              (app 1 l623 [decide (0 < (gd r k627))]).bind fun x663 =>
              some x663) m k o = some (o ++ rounds (r.drop k)) := by
    intro m
    induction m with
    | zero => intro k o hk _; rw [List.drop_eq_nil_of_le (by omega)]; simp [forN', rounds]
    | succ m ih =>
      intro k o hk ho
      have hlt : k < r.length := by omega
      rw [List.drop_eq_getElem_cons hlt, forN', chk_ok (by omega) (by omega), Option.bind_some, app_ok (by simp; omega), Option.bind_some]
      have hg : gd r k = r[k] := by unfold gd; rw [List.getD_eq_getElem?_getD, List.getElem?_eq_getElem hlt]; rfl
      simp only
      rw [ih (k + 1) _ (by omega) (by simp [ho]), hg]
      show some ((o ++ [decide (0 < r[k])]) ++ rounds (r.drop (k + 1))) = some (o ++ (decide (0 < r[k]) :: rounds (r.drop (k + 1))))
      rw [List.append_assoc]
      rfl
  have := key r.length 0 [] (by omega) rfl
  simpa using this
theorem fin_ok {p : Int} (hp : p = 0 ∨ p = 1) {l : List T_target_Shot} {r : List Int} (h5 : 5 ≤ l.length) (h8 : l.length ≤ 8) (hin : l.all fIn = true) (hr : fl (if p = 0 then 50625 else 330625) l [] = some r) : finT p l = some true := by
  have hf : m_target_Falls p l = some (r, 0) := by rw [falls_is hp h8 hin, hr]; rfl
  have hlen := fl_len hr
  simp only [List.length_nil, Nat.zero_add] at hlen
  have hrng := fl_rng hr (by simp)
  have hone := count_le1 (fl_one hr (by simp))
  obtain ⟨t, ht, hh⟩ := fl_hits hr
  rw [List.nil_append] at ht
  subst ht
  have hc : cnt5 ([] : List Int) = 0 := rfl
  rw [hc] at hh
  have hpos := pos_cnt hrng
  have hrl : (rounds r).length = r.length := by simp [rounds]
  have hl : m_target_Loops p l = some (5 - (cnt5 r : Int), 0) := by
    unfold m_target_Loops
    rw [hf]
    simp only [Option.bind_some]
    rw [if_pos trivial, loops_loop (by omega), Option.bind_some, hpos]
  have hs : m_target_Spares p l = some ((l.length : Int) - 5, 0) := by
    unfold m_target_Spares
    rw [hf]
    simp only [Option.bind_some]
    rw [if_pos trivial, w64_in (by omega) (by omega), hlen, Int.max_eq_right (by omega)]
  have hsh := shot_is (l := rounds r) (by omega) (by omega) hh
  unfold finT
  rw [hf, hl, hs]
  simp only [Option.bind_some]
  rw [if_pos trivial, if_pos trivial, if_pos trivial, if_pos (by omega), if_neg (by omega), rounds_loop (by omega), Option.bind_some, hsh]
  simp only [Option.bind_some]
  rw [if_pos trivial, if_pos trivial, if_pos (by omega)]
  by_cases hm : cnt5 r < 5
  · rw [if_pos (by omega), if_pos hm, if_pos]
    · rfl
    · rw [hrl, hlen]
      simp only [beq_iff_eq]
      exact decide_eq_decide.2 ⟨fun _ => by omega, fun _ => by omega⟩
  · rw [if_neg (by omega), if_neg hm]
    rfl
theorem law_Targets (a : List Int) : m_klisterlaw08_RelayTargets a = some true := by
  unfold m_klisterlaw08_RelayTargets m_klisterkit_Of
  rw [Option.bind_some]
  obtain ⟨p, d1, e1, n0, n1, x0, x1⟩ := draw_ok ⟨a, 0, 17⟩ 2 (Int.le_refl 0) (by show (0 : Int) ≤ 1000000; omega)
  rw [e1, Option.bind_some]
  simp only at n1 ⊢
  have hp : p = 0 ∨ p = 1 := by omega
  obtain ⟨n, d2, e2, n2, n3, x2, x3⟩ := deal_ok d1 5 8 n0 (by omega) (by omega) (by omega) (by omega)
  rw [e2, Option.bind_some]
  simp only
  obtain ⟨N, rfl⟩ : ∃ N : Nat, n = N := ⟨n.toNat, by omega⟩
  rw [forR_list (by omega)]
  have key := forN_inv (S := List Int × Int × Int × List T_target_Shot) (B := Bool) (body := fun k78 (l70, x73, x74, l75) =>
    (m_klisterkit_Deck_Draw (⟨l70, x73, x74⟩ : T_klisterkit_Deck) 5).bind fun (x101, x102) =>
    (m_klisterkit_Deck_Between x102 (-300) 300).bind fun (x115, x116) =>
    (m_klisterkit_Deck_Between x116 (-300) 300).bind fun (x158, x159) =>
    ((m_klisterkit_Clone_target_Shot l75).bind fun x185 =>
    (app 16 x185 [(⟨w64 ((w64 (2500 * x101)) + x158), x115⟩ : T_target_Shot)]).bind fun x203 =>
    some x203).bind fun l176 =>
    (m_target_Falls p l176).bind fun (x285, x286) =>
    if x286 = 0 then
      some (.inl (x159.bytes, x159.next, x159.state, l176))
    else
      esc ((m_target_Falls p l75).bind fun (x323, x324) =>
      (m_target_Loops p l75).bind fun (x338, x339) =>
      (m_target_Spares p l75).bind fun (x350, x351) =>
      if x324 = 0 then
        if x339 = 0 then
          if x351 = 0 then
            if (↑x323.length : Int) = (↑l75.length : Int) then
              if (↑l75.length : Int) < 5 then
                some false
              else
                (forR' 0 (↑x323.length : Int) (fun k398 l394 =>
                  (chk (↑k398 : Int) x323.length).bind fun _ =>
                  (app 1 l394 [decide (0 < (gd x323 k398))]).bind fun x434 =>
                  some x434) []).bind fun y403 =>
                (m_relay_Shot y403).bind fun (x469, x470) =>
                if x470 = 0 then
                  if x469.Loops = x338 then
                    if x469.Spares = x350 then
                      if 0 < x338 then
                        if ((decide (0 < x469.Unused)) == (decide ((↑l75.length : Int) < 8))) = true then
                          (m_klisterlaw08_awake).bind fun x497 =>
                          some x497
                        else
                          some false
                      else
                        if ((decide (0 < x469.Unused)) == false) = true then
                          (m_klisterlaw08_awake).bind fun x511 =>
                          some x511
                        else
                          some false
                    else
                      some false
                  else
                    some false
                else
                  some false
            else
              some false
          else
            some false
        else
          some false
      else
        some false))
    (fun k t => 0 ≤ t.2.1 ∧ t.2.1 ≤ 2 + 3 * (k : Int) ∧ t.2.2.2.length = k ∧ t.2.2.2.all fIn = true ∧ ∃ r, fl (if p = 0 then 50625 else 330625) t.2.2.2 [] = some r) (fun b => b = true) N 0 (d2.bytes, d2.next, d2.state, []) ⟨n2, by show d2.next ≤ _; omega, rfl, rfl, [], rfl⟩
    (by
      rintro k ⟨B, x, s, L⟩ _ hk ⟨i1, i2, i3, i4, r, i5⟩
      simp only at i1 i2 i3 i4 i5 ⊢
      obtain ⟨q1, f1, g1, m1, m2, y1, y2⟩ := draw_ok ⟨B, x, s⟩ 5 i1 (by show x ≤ _; omega)
      simp only at m2
      obtain ⟨q2, f2, g2, m3, m4, y3, y4⟩ := deal_ok f1 (-300) 300 m1 (by omega) (by omega) (by omega) (by omega)
      obtain ⟨q3, f3, g3, m5, m6, y5, y6⟩ := deal_ok f2 (-300) 300 m3 (by omega) (by omega) (by omega) (by omega)
      have hcl : m_klisterkit_Clone_target_Shot L = some L := by
        unfold m_klisterkit_Clone_target_Shot
        rw [app_ok (by simp; omega)]
        rfl
      rw [g1, Option.bind_some]
      simp only
      rw [g2, Option.bind_some]
      simp only
      rw [g3, Option.bind_some]
      simp only
      rw [hcl, Option.bind_some, app_ok (by simp; omega), Option.bind_some, Option.bind_some, w64_in (x := 2500 * q1) (by omega) (by omega), w64_in (x := 2500 * q1 + q3) (by omega) (by omega)]
      have hin : (L ++ [(⟨2500 * q1 + q3, q2⟩ : T_target_Shot)]).all fIn = true := by
        rw [List.all_append, i4, Bool.true_and]
        unfold fIn
        simp
        omega
      rw [falls_is hp (by simp; omega) hin, Option.bind_some, fl_snoc, i5, Option.bind_some]
      by_cases hc : cnt5 r = 5
      · rw [if_pos hc]
        right
        refine ⟨true, ?_, rfl⟩
        have hl := fl_len i5
        simp only [List.length_nil, Nat.zero_add] at hl
        have hle : cnt5 r ≤ r.length := by
          rw [← pos_cnt (fl_rng i5 (by simp))]
          exact List.countP_le_length
        show esc (finT p L) = _
        rw [fin_ok hp (by omega) (by omega) i4 i5]
        rfl
      · rw [if_neg hc]
        left
        exact ⟨_, rfl, by show 0 ≤ f3.next; omega, by show f3.next ≤ _; omega, by simp [i3], hin, _, by show fl _ (L ++ _) [] = _; rw [fl_snoc, i5, Option.bind_some, if_neg hc]⟩)
  rcases key with ⟨⟨B, x, s, L⟩, k1, k2, k3, k4, k5, r, k6⟩ | ⟨b, k1, k2⟩
  · rw [k1]
    have k4 : L.length = 0 + N := k4
    exact fin_ok (l := L) (r := r) hp (by omega) (by omega) k5 k6
  · rw [k1, k2]
    rfl
end Go.Proofs.YtjfffcjjlnmneaaGreat
