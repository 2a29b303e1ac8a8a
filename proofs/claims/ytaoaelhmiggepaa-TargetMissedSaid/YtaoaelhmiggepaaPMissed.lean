/- The plain law of TargetMissed. -/
import Derived.Test.YtaoaelhmiggepaaPRoundC
import Derived.Test.YtaoaelhmiggepaaPWideB
namespace Go.Proofs.Ytaoaelhmiggepaa
open Go.KL

theorem stp_in {n : Nat} {l : List T_target_Sheet} {o : List Int} (ho : o.length = n) {k i : Int} (k0 : 0 ≤ k) (k4 : k ≤ 4) (i0 : 0 ≤ i) (h1 : k < 2 → i < l.length) (h2 : 2 ≤ k → i < n) : stp n l o ⟨k, i⟩ ≠ none := by
  unfold stp
  simp only
  rw [if_neg (by omega)]
  by_cases a0 : k = 0
  · rw [if_pos a0, if_pos (h1 (by omega))]; simp
  rw [if_neg a0]
  by_cases a1 : k = 1
  · rw [if_pos a1, if_pos (h1 (by omega))]; simp
  rw [if_neg a1]
  by_cases a2 : k = 2
  · rw [if_pos a2, if_pos (h2 (by omega))]; simp
  rw [if_neg a2]
  by_cases a3 : k = 3
  · rw [if_pos a3, if_pos (h2 (by omega))]; simp
  rw [if_neg a3, if_pos (by omega), if_pos (by have := h2 (by omega); omega)]
  simp

/-- A round of numbers. -/
theorem round_dealt {n : Nat} {l : List T_target_Sheet} {o : List Int} (ho : o.length = n) (hn : 1 ≤ n) (hn8 : n ≤ 8) (hl : l.length ≤ 20) (m : Nat) (hm : m ≤ 4) (B : List Int) (nx st : Int) (h0 : 0 ≤ nx) (h1 : nx ≤ 10000) :
    ∃ B' nx' st' r, forR' 0 (m : Int) (fun k321 (l312, x315, x316, l317) =>
        (m_klisterkit_Deck_Draw (⟨l312, x315, x316⟩ : T_klisterkit_Deck) 5).bind fun (x356, x357) =>
        (m_klisterkit_Deck_Draw x357 (n : Int)).bind fun (x377, x378) =>
        (if x356 = 0 then
          some true
        else
          some (decide (x356 = 1))).bind fun b395 =>
        if b395 = true then
          (m_klisterkit_Deck_Draw x378 (↑l.length : Int)).bind fun (x426, x427) =>
          if (↑l.length : Int) = 0 then
            (app 16 l317 [(⟨4, 0⟩ : T_target_Step)]).bind fun x453 =>
            some (x427.bytes, x427.next, x427.state, x453)
          else
            (app 16 l317 [(⟨x356, x426⟩ : T_target_Step)]).bind fun x475 =>
            some (x427.bytes, x427.next, x427.state, x475)
        else
          (app 16 l317 [(⟨x356, x377⟩ : T_target_Step)]).bind fun x497 =>
          some (x378.bytes, x378.next, x378.state, x497)) (B, nx, st, []) = some (B', nx', st', r) ∧ 0 ≤ nx' ∧ nx' ≤ nx + 3 * m ∧ r.length = m ∧ ∀ s ∈ r, stp n l o s ≠ none := by
  rw [forR'_list (by omega)]
  obtain ⟨⟨B', nx', st', r⟩, g1, g2⟩ := forN'_inv (S := List Int × Int × Int × List T_target_Step) (body := fun (k321 : Nat) (l312, x315, x316, l317) =>
        (m_klisterkit_Deck_Draw (⟨l312, x315, x316⟩ : T_klisterkit_Deck) 5).bind fun (x356, x357) =>
        (m_klisterkit_Deck_Draw x357 (n : Int)).bind fun (x377, x378) =>
        (if x356 = 0 then
          some true
        else
          some (decide (x356 = 1))).bind fun b395 =>
        if b395 = true then
          (m_klisterkit_Deck_Draw x378 (↑l.length : Int)).bind fun (x426, x427) =>
          if (↑l.length : Int) = 0 then
            (app 16 l317 [(⟨4, 0⟩ : T_target_Step)]).bind fun x453 =>
            some (x427.bytes, x427.next, x427.state, x453)
          else
            (app 16 l317 [(⟨x356, x426⟩ : T_target_Step)]).bind fun x475 =>
            some (x427.bytes, x427.next, x427.state, x475)
        else
          (app 16 l317 [(⟨x356, x377⟩ : T_target_Step)]).bind fun x497 =>
          some (x378.bytes, x378.next, x378.state, x497)) (fun i s => 0 ≤ s.2.1 ∧ s.2.1 ≤ nx + 3 * i ∧ s.2.2.2.length = i ∧ ∀ z ∈ s.2.2.2, stp n l o z ≠ none) m 0 (B, nx, st, [])
    ⟨h0, by show nx ≤ _; omega, rfl, fun s hs => by cases hs⟩
    (by
      rintro i ⟨b, x, s, r⟩ _ hi ⟨c1, c2, c3, c4⟩
      simp only at c1 c2 c3 c4
      obtain ⟨k, d1, e1, n0, n1, k0, k1⟩ := draw_ok ⟨b, x, s⟩ 5 c1 (by show x ≤ _; omega)
      simp only at n1
      obtain ⟨j, d2, e2, m0, m1, j0, j1⟩ := draw_ok d1 n n0 (by omega)
      have fin : ∀ (d : T_klisterkit_Deck) (y : T_target_Step), 0 ≤ d.next → d.next ≤ x + 3 → stp n l o y ≠ none → ∃ s', ((app 16 r [y]).bind fun z => some (d.bytes, d.next, d.state, z)) = some s' ∧ (0 ≤ s'.2.1 ∧ s'.2.1 ≤ nx + 3 * ((i + 1 : Nat) : Int) ∧ s'.2.2.2.length = i + 1 ∧ ∀ s ∈ s'.2.2.2, stp n l o s ≠ none) := by
        intro d y q0 q1 q2
        refine ⟨(d.bytes, d.next, d.state, r ++ [y]), ?_, q0, by show d.next ≤ _; omega, by simp [c3], fun z hz => ?_⟩
        · rw [app_ok (by simp only [List.length_cons, List.length_nil]; omega)]
          rfl
        · rcases List.mem_append.1 hz with hz | hz
          · exact c4 z hz
          · have := List.mem_singleton.1 hz
            subst this
            exact q2
      simp only
      rw [e1, Option.bind_some]
      simp only
      rw [e2, Option.bind_some]
      simp only
      have eb : (if k = 0 then some true else some (decide (k = 1))) = some (decide (k < 2)) := by
        by_cases h : k = 0
        · rw [if_pos h, decide_eq_true (by omega)]
        · rw [if_neg h]
          congr 1
          exact decide_eq_decide.2 (by omega)
      rw [eb, Option.bind_some]
      by_cases hk : k < 2
      · rw [if_pos (decide_eq_true hk)]
        obtain ⟨q, d3, e3, p0, p1, q0, q1⟩ := draw_ok d2 l.length m0 (by omega)
        rw [e3, Option.bind_some]
        simp only
        by_cases hl0 : (l.length : Int) = 0
        · rw [if_pos hl0]
          exact fin d3 ⟨4, 0⟩ p0 (by omega) (stp_in ho (by decide) (by decide) (by decide) (fun h => absurd h (by decide)) (fun _ => by omega))
        · rw [if_neg hl0]
          exact fin d3 ⟨k, q⟩ p0 (by omega) (stp_in ho k0 (by omega) q0 (fun _ => by omega) (fun h => by omega))
      · rw [if_neg (by simpa using hk)]
        exact fin d2 ⟨k, j⟩ m0 (by omega) (stp_in ho k0 (by omega) j0 (fun h => by omega) (fun _ => by omega)))
  obtain ⟨c1, c2, c3, c4⟩ := g2
  simp only at c1 c2 c3 c4
  exact ⟨B', nx', st', r, g1, c1, by omega, by omega, c4⟩

theorem dueErr_zero {n : Nat} {l : List T_target_Sheet} {o : List Int} (ho : o.length = n) (h1 : 1 ≤ n) (h8 : n ≤ 8) (hw : ∀ k ∈ o, 0 ≤ k ∧ k ≤ 5) (hl : l.length ≤ 20) (hs : ∀ s ∈ l, okSheet n s) : dueErr o l = 0 := by
  unfold dueErr
  rw [if_neg (by omega), if_pos (List.all_eq_true.2 fun k hk => decide_eq_true (hw k hk)), ho]
  exact shErr_zero h1 h8 hl hs

/-- Rounds that are tried show it only if it is so. -/
theorem tried {n : Nat} {l : List T_target_Sheet} {o : List Int} (ho : o.length = n) (h1 : 1 ≤ n) (h8 : n ≤ 8) (hd : dueErr o l = 0) (hl : l.length ≤ 20) {few : Bool} (hf : few = false ↔ ∃ x, Fit n l o x) (B : List Int) (nx st : Int) (q0 : 0 ≤ nx) (q1 : nx ≤ 1000) :
    ∃ B' nx' st', forR 0 6 (fun k243 (l238, x241, x242) =>
      (m_klisterkit_Deck_Between (⟨l238, x241, x242⟩ : T_klisterkit_Deck) 1 4).bind fun (x270, x271) =>
      (forR' 0 x270 (fun k321 (l312, x315, x316, l317) =>
        (m_klisterkit_Deck_Draw (⟨l312, x315, x316⟩ : T_klisterkit_Deck) 5).bind fun (x356, x357) =>
        (m_klisterkit_Deck_Draw x357 (n : Int)).bind fun (x377, x378) =>
        (if x356 = 0 then
          some true
        else
          some (decide (x356 = 1))).bind fun b395 =>
        if b395 = true then
          (m_klisterkit_Deck_Draw x378 (↑l.length : Int)).bind fun (x426, x427) =>
          if (↑l.length : Int) = 0 then
            (app 16 l317 [(⟨4, 0⟩ : T_target_Step)]).bind fun x453 =>
            some (x427.bytes, x427.next, x427.state, x453)
          else
            (app 16 l317 [(⟨x356, x426⟩ : T_target_Step)]).bind fun x475 =>
            some (x427.bytes, x427.next, x427.state, x475)
        else
          (app 16 l317 [(⟨x356, x377⟩ : T_target_Step)]).bind fun x497 =>
          some (x378.bytes, x378.next, x378.state, x497)) (x271.bytes, x271.next, x271.state, [])).bind fun (y326, y327, y328, y329) =>
      (m_target_RoundShows o l y329).bind fun (x567, x568) =>
      if x568 = 0 then
        if few = true then
          if 0 ≤ x567 then
            esc (some false)
          else
            some (.inl (y326, y327, y328))
        else
          esc (some false)
      else
        if x568 = 8 then
          some (.inl (y326, y327, y328))
        else
          esc (some false)) (B, nx, st) = some (.inl (B', nx', st')) := by
  obtain ⟨_, _, how, hz⟩ := dueErr_ok hd
  obtain ⟨_, _, h3, h4'⟩ := shErr_ok hz
  have h4 : ∀ s ∈ l, okSheet n s := fun s hs => by have := h4' s hs; rwa [Int.toNat_natCast, ho] at this
  obtain ⟨ks, e1, e2, e3, e4⟩ := links_eq (n := n) (by omega) h3 h4 (show o.length ≤ n by omega) how
  rw [links_known (by omega) h3 h4 (by omega) how] at e1
  cases e1
  have e6 : (6 : Int) = ((6 : Nat) : Int) := rfl
  rw [e6, forR_list (by omega)]
  have := forN_inv (S := List Int × Int × Int) (B := Bool) (body := fun k243 (l238, x241, x242) =>
      (m_klisterkit_Deck_Between (⟨l238, x241, x242⟩ : T_klisterkit_Deck) 1 4).bind fun (x270, x271) =>
      (forR' 0 x270 (fun k321 (l312, x315, x316, l317) =>
        (m_klisterkit_Deck_Draw (⟨l312, x315, x316⟩ : T_klisterkit_Deck) 5).bind fun (x356, x357) =>
        (m_klisterkit_Deck_Draw x357 (n : Int)).bind fun (x377, x378) =>
        (if x356 = 0 then
          some true
        else
          some (decide (x356 = 1))).bind fun b395 =>
        if b395 = true then
          (m_klisterkit_Deck_Draw x378 (↑l.length : Int)).bind fun (x426, x427) =>
          if (↑l.length : Int) = 0 then
            (app 16 l317 [(⟨4, 0⟩ : T_target_Step)]).bind fun x453 =>
            some (x427.bytes, x427.next, x427.state, x453)
          else
            (app 16 l317 [(⟨x356, x426⟩ : T_target_Step)]).bind fun x475 =>
            some (x427.bytes, x427.next, x427.state, x475)
        else
          (app 16 l317 [(⟨x356, x377⟩ : T_target_Step)]).bind fun x497 =>
          some (x378.bytes, x378.next, x378.state, x497)) (x271.bytes, x271.next, x271.state, [])).bind fun (y326, y327, y328, y329) =>
      (m_target_RoundShows o l y329).bind fun (x567, x568) =>
      if x568 = 0 then
        if few = true then
          if 0 ≤ x567 then
            esc (some false)
          else
            some (.inl (y326, y327, y328))
        else
          esc (some false)
      else
        if x568 = 8 then
          some (.inl (y326, y327, y328))
        else
          esc (some false)) (fun i s => 0 ≤ s.2.1 ∧ s.2.1 ≤ 1000 + 20 * i) (fun _ => False) 6 0 (B, nx, st) ⟨q0, by show nx ≤ _; omega⟩
    (by
      rintro i ⟨b, x, s⟩ _ hi ⟨c1, c2⟩
      simp only at c1 c2
      left
      obtain ⟨m, d', e, n0, n1, m0, m1⟩ := deal_ok ⟨b, x, s⟩ 1 4 c1 (by show x ≤ _; omega) (by decide) (by decide) (by decide)
      simp only at n1
      obtain ⟨m, rfl⟩ : ∃ j : Nat, m = j := ⟨m.toNat, by omega⟩
      obtain ⟨B', nx', st', r, g1, g2, g3, g4, g5⟩ := round_dealt ho h1 h8 hl m (by omega) d'.bytes d'.next d'.state n0 (by omega)
      simp only
      rw [e, Option.bind_some]
      simp only
      rw [g1, Option.bind_some]
      simp only
      rw [prog_shows ho hd (by omega), Option.bind_some]
      refine ⟨(B', nx', st'), ?_, g2, by show nx' ≤ 1000 + 20 * ((i + 1 : Nat) : Int); omega⟩
      have hl4 : ¬ (r.length < 1 ∨ 40 < r.length) := by omega
      by_cases hC : Closed (r.map (lk n l o)) ∧ wsum (r.map (lk n l o)) < 0
      · have ers : rs n l o r = (wsum (r.map (lk n l o)), 0) := by rw [rs, if_neg hl4, if_pos g5, if_pos hC]
        rw [ers]
        show (if (0 : Int) = 0 then if few = true then if 0 ≤ wsum (r.map (lk n l o)) then esc (some false) else some (.inl (B', nx', st')) else esc (some false) else if (0 : Int) = 8 then some (.inl (B', nx', st')) else esc (some false)) = some (.inl (B', nx', st'))
        rw [if_pos rfl]
        have hfew : few = true := by
          cases few with
          | true => rfl
          | false =>
            obtain ⟨y, hy⟩ := hf.1 rfl
            have hm : ∀ k ∈ r.map (lk n l o), k ∈ known n l o := fun k hk => by
              obtain ⟨z, hz', rfl⟩ := List.mem_map.1 hk
              exact (known_stp (g5 z hz')).1
            have := closed_sum ((e4 y).2 hy) hm (fun k hk => (wt_known e2 (hm k hk)).1) hC.1 (fun e => by have := congrArg List.length e; simp at this; subst this; simp at g4; omega)
            omega
        rw [if_pos hfew, if_neg (by omega)]
      · have ers : rs n l o r = (0, 8) := by rw [rs, if_neg hl4, if_pos g5, if_neg hC]
        rw [ers]
        rfl)
  rcases this with ⟨⟨B', nx', st'⟩, g1, _⟩ | ⟨_, _, h⟩
  · exact ⟨B', nx', st', g1⟩
  · exact h.elim

theorem fit_sum {n : Nat} {l : List T_target_Sheet} {o : List Int} (ho : o.length = n) {x : Nat → Int} (F : Fit n l o x) {a : Nat} : ∀ b, a ≤ b → b ≤ n → pre o b - pre o a ≤ x b - x a
  | 0, h, _ => by rw [show a = 0 by omega]; omega
  | b + 1, h, hb => by
    by_cases e : a = b + 1
    · subst e; omega
    · have := fit_sum ho F (a := a) b (by omega) (by omega)
      have := F.ow b _ (List.getElem?_eq_getElem (by omega))
      rw [pre_succ (by omega)]
      omega

/-- Sheets without errors, one for each bout. -/
theorem each_ok {n : Nat} {real o : List Int} (hr : real.length = n) (ho : o.length = n) (h1 : 1 ≤ n) (h8 : n ≤ 8) (r2 : ∀ r ∈ real, 0 ≤ r ∧ r ≤ 5) (hw : ∀ k ∈ o, 0 ≤ k ∧ k ≤ 5) :
    ((forR' 0 (↑n : Int) (fun k899 (l894, b898) =>
                  (idx real (↑k899 : Int)).bind fun x925 =>
                  (m_klisterlaw03_span x925 x925).bind fun x945 =>
                  (app 32 l894 [(⟨(↑k899 : Int), (↑k899 : Int), x945⟩ : T_target_Sheet)]).bind fun x960 =>
                  if b898 = true then
                    some (x960, true)
                  else
                    (idx o (↑k899 : Int)).bind fun x975 =>
                    some (x960, decide (x925 < x975))) ([], false)).bind fun (y904, y905) =>
                (m_target_Few o y904).bind fun (x1021, x1022) =>
                if x1022 = 0 then
                  if (x1021 == y905) = true then
                    (m_klisterlaw03_awake).bind fun x1040 =>
                    some x1040
                  else
                    some false
                else
                  some false) = some true := by
  rw [forR'_list (by omega)]
  obtain ⟨⟨e, b⟩, g1, g2, g3⟩ := forN'_inv (S := List T_target_Sheet × Bool) (body := fun k899 (l894, b898) =>
                  (idx real (↑k899 : Int)).bind fun x925 =>
                  (m_klisterlaw03_span x925 x925).bind fun x945 =>
                  (app 32 l894 [(⟨(↑k899 : Int), (↑k899 : Int), x945⟩ : T_target_Sheet)]).bind fun x960 =>
                  if b898 = true then
                    some (x960, true)
                  else
                    (idx o (↑k899 : Int)).bind fun x975 =>
                    some (x960, decide (x925 < x975))) (fun i s => s.1 = (List.range i).map (fun (k : Nat) => (⟨(k : Int), (k : Int), ⟨gd real k, gd real k⟩⟩ : T_target_Sheet)) ∧ (s.2 = true ↔ ∃ j, j < i ∧ gd real j < gd o j)) n 0 ([], false)
    ⟨rfl, fun h => (by cases h), fun ⟨j, h, _⟩ => by omega⟩
    (by
      rintro i ⟨e, b⟩ _ hi ⟨c1, c2⟩
      simp only at c1 c2
      subst c1
      unfold m_klisterlaw03_span
      simp only
      have ea : ∀ z : T_target_Sheet, app 32 ((List.range i).map (fun (k : Nat) => (⟨(k : Int), (k : Int), ⟨gd real k, gd real k⟩⟩ : T_target_Sheet))) [z] = some ((List.range i).map (fun (k : Nat) => (⟨(k : Int), (k : Int), ⟨gd real k, gd real k⟩⟩ : T_target_Sheet)) ++ [z]) := fun z => app_ok (by simp only [List.length_map, List.length_range, List.length_cons, List.length_nil]; omega)
      rw [idx_nat, gd_at (by omega), Option.bind_some, Option.bind_some, ea, Option.bind_some]
      have er : (List.range (i + 1)).map (fun (k : Nat) => (⟨(k : Int), (k : Int), ⟨gd real k, gd real k⟩⟩ : T_target_Sheet)) = (List.range i).map (fun (k : Nat) => (⟨(k : Int), (k : Int), ⟨gd real k, gd real k⟩⟩ : T_target_Sheet)) ++ [⟨(i : Int), (i : Int), ⟨gd real i, gd real i⟩⟩] := by
        rw [List.range_succ, List.map_append]; rfl
      by_cases hb : b = true
      · rw [if_pos hb]
        refine ⟨_, rfl, er.symm, fun _ => ?_, fun _ => rfl⟩
        obtain ⟨j, h1, h2⟩ := c2.1 hb
        exact ⟨j, by omega, h2⟩
      · rw [if_neg hb, idx_nat, gd_at (by omega), Option.bind_some]
        refine ⟨_, rfl, er.symm, ?_⟩
        simp only [decide_eq_true_eq]
        constructor
        · intro h; exact ⟨i, by omega, h⟩
        · rintro ⟨j, h1, h2⟩
          by_cases ej : j = i
          · subst ej; exact h2
          · exact absurd (c2.2 ⟨j, by omega, h2⟩) hb)
  rw [Nat.zero_add] at g2 g3
  simp only at g2 g3
  have hgr : ∀ j, j < n → 0 ≤ gd real j ∧ gd real j ≤ 5 := fun j hj => by
    rw [gd_is (by omega)]
    exact r2 _ (List.getElem_mem _)
  have hs : ∀ s ∈ e, okSheet n s := fun s hs => by
    rw [g2] at hs
    obtain ⟨k, hk, rfl⟩ := List.mem_map.1 hs
    have := List.mem_range.1 hk
    have := hgr k this
    exact ⟨by show (0 : Int) ≤ k; omega, Int.le_refl _, by show (k : Int) < n; omega, this.1, Int.le_refl _, by show gd real k ≤ 72; omega⟩
  have hd := dueErr_zero (l := e) ho h1 h8 hw (by rw [g2, List.length_map, List.length_range]; omega) hs
  obtain ⟨few, f1, f2⟩ := few_good ho hd
  rw [g1, Option.bind_some]
  simp only
  rw [f1, Option.bind_some]
  simp only [if_true]
  have eq : few = b := by
    have hb : b = false ↔ ∃ x, Fit n e o x := by
      constructor
      · intro hb
        refine ⟨pre real, fun s hs => ?_, fun j hj => ?_, fun j k hk => ?_⟩
        · rw [g2] at hs
          obtain ⟨k, hk, rfl⟩ := List.mem_map.1 hs
          have hk := List.mem_range.1 hk
          simp only [Int.toNat_natCast, show ((k : Int) + 1).toNat = k + 1 by omega]
          rw [pre_succ (by omega), gd_is (by omega)]
          omega
        · rw [pre_succ (by omega)]
          have := hgr j hj
          rw [gd_is (by omega)] at this
          omega
        · have hj := (List.getElem?_eq_some_iff.1 hk).1
          have hle : ¬ gd real j < gd o j := fun h => by
            have := g3.2 ⟨j, by omega, h⟩
            rw [hb] at this
            cases this
          rw [gd_is (by omega), gd_is hj] at hle
          rw [List.getElem?_eq_getElem hj] at hk
          cases hk
          rw [pre_succ (by omega)]
          omega
      · rintro ⟨x, F⟩
        cases b with
        | false => rfl
        | true =>
          obtain ⟨j, h1, h2⟩ := g3.1 rfl
          have a1 := F.sh ⟨(j : Int), (j : Int), ⟨gd real j, gd real j⟩⟩ (by rw [g2]; exact List.mem_map.2 ⟨j, List.mem_range.2 h1, rfl⟩)
          have a2 := F.ow j _ (gd_at (by omega))
          simp only [Int.toNat_natCast, show ((j : Int) + 1).toNat = j + 1 by omega] at a1
          omega
    cases few with
    | false => exact (hb.2 (f2.1 rfl)).symm
    | true =>
      cases b with
      | true => rfl
      | false => exact absurd (f2.2 (hb.1 rfl)) (by decide)
  rw [if_pos (by simp [eq])]
  rfl

theorem law_Missed (p0 p1 : List Int) (p2 p3 : Int) (h20 : 0 ≤ p2) (h21 : p2 ≤ 255) (h30 : 0 ≤ p3) (h31 : p3 ≤ 255) : m_klisterlaw03_TargetMissed p0 p1 p2 p3 = some true := by
  unfold m_klisterlaw03_TargetMissed m_klisterkit_Of
  rw [Option.bind_some]
  obtain ⟨real, l, d, e1, n0, n1, r0, r1, r2, l0, l1, l2⟩ := counted_ok (p1 := 8) (p2 := 2) (by decide) (by decide) (by decide) (by decide) p0
  rw [e1, Option.bind_some]
  simp only
  rw [Option.bind_some]
  generalize hn : real.length = n at *
  have hn8 : n ≤ 8 := by omega
  obtain ⟨B2, x2, s2, owed, e2, b0, b1, b2, b3⟩ := dealt n 6 (by decide) p1 0 17 (by decide) (by omega) (by omega)
  rw [forR'_list (by omega), e2, Option.bind_some]
  simp only
  have ow : ∀ k ∈ owed, 0 ≤ k ∧ k ≤ 5 := fun k hk => by have := b3 k hk; omega
  have hd := dueErr_zero (l := l) b2 r0 hn8 ow (by omega) l1
  obtain ⟨few, f1, f2⟩ := few_good b2 hd
  rw [f1, Option.bind_some]
  simp only [if_true]
  obtain ⟨B', nx', st', t1⟩ := tried b2 r0 hn8 hd (by omega) f2 B2 x2 s2 b0 (by omega)
  rw [t1, jn_some_inl]
  obtain ⟨f, q1, q2, q3⟩ := rem_in (a := p2) (b := n) h20 (by omega)
  rw [w64_in (x := p2) (by omega) (by omega), q1, Option.bind_some, w64_in (x := (n : Int) - f) (by omega) (by omega)]
  obtain ⟨g, u1, u2, u3⟩ := rem_in (a := p3) (b := (n : Int) - f) h30 (by omega)
  rw [w64_in (x := p3) (by omega) (by omega), u1, Option.bind_some, w64_in (x := f + g) (by omega) (by omega)]
  obtain ⟨fn, rfl⟩ : ∃ m : Nat, f = m := ⟨f.toNat, by omega⟩
  obtain ⟨gn, rfl⟩ : ∃ m : Nat, g = m := ⟨g.toNat, by omega⟩
  have rbnd := fun (c : Nat) (hc : c ≤ n) => pre_bnd (t := real) (fun r h => by have := r2 r h; omega) c (by omega)
  have obnd := fun (c : Nat) (hc : c ≤ n) => pre_bnd (t := owed) (fun r h => by have := ow r h; omega) c (by omega)
  have rmono := pre_mono (t := real) (fun r h => by have := r2 r h; omega) (a := fn) (fn + gn + 1) (by omega) (by omega)
  refine iter_ind_eq (fun i s => s = (pre real (fn + i) - pre real fn, pre owed (fn + i) - pre owed fn, ((fn + i : Nat) : Int))) (gn + 1) (by simp) (by omega) ?_
  · · rintro i s hi rfl
      simp only
      by_cases hc : i < gn + 1
      · left
        refine ⟨hc, _, ?_, rfl⟩
        have k1 := rbnd (fn + i) (by omega)
        have k2 := rbnd fn (by omega)
        have k3 := obnd (fn + i) (by omega)
        have k4 := obnd fn (by omega)
        have k5 := r2 _ (List.getElem_mem (show fn + i < real.length by omega))
        have k6 := ow _ (List.getElem_mem (show fn + i < owed.length by omega))
        rw [if_pos (by omega), idx_nat, List.getElem?_eq_getElem (by omega), Option.bind_some, b2, chk_ok (by omega) (by omega), Option.bind_some, Int.toNat_natCast, gd_is (by omega),
          w64_in (by omega) (by omega), w64_in (by omega) (by omega), w64_in (by omega) (by omega), show fn + (i + 1) = fn + i + 1 by omega, pre_succ (by omega), pre_succ (by omega)]
        congr 2
        refine Prod.ext ?_ (Prod.ext ?_ ?_) <;> simp only <;> omega
      · right
        have ei : i = gn + 1 := by omega
        subst ei
        rw [if_neg (by omega), show fn + (gn + 1) = fn + gn + 1 by omega]
        have k1 := rbnd (fn + gn + 1) (by omega)
        have k2 := rbnd fn (by omega)
        generalize hsk : pre real (fn + gn + 1) - pre real fn = sk at *
        have hsp : ∀ a b, m_klisterlaw03_span a b = some ⟨a, b⟩ := fun _ _ => rfl
        rw [hsp, Option.bind_some, app_ok (by simp only [List.length_cons, List.length_nil]; omega), Option.bind_some]
        generalize hl' : l ++ [(⟨(fn : Int), (fn : Int) + gn, ⟨sk, sk⟩⟩ : T_target_Sheet)] = l'
        have okn : okSheet n ⟨(fn : Int), (fn : Int) + gn, ⟨sk, sk⟩⟩ := ⟨by show (0 : Int) ≤ fn; omega, by show (fn : Int) ≤ fn + gn; omega, by show (fn : Int) + gn < n; omega, by show 0 ≤ sk; omega, Int.le_refl _, by show sk ≤ 72; omega⟩
        have hs' : ∀ s ∈ l', okSheet n s := fun s hs => by
          rw [← hl'] at hs
          rcases List.mem_append.1 hs with hs | hs
          · exact l1 s hs
          · have := List.mem_singleton.1 hs
            subst this
            exact okn
        have hd' := dueErr_zero (l := l') b2 r0 hn8 ow (by rw [← hl']; simp only [List.length_append, List.length_cons, List.length_nil]; omega) hs'
        obtain ⟨few', v1, v2⟩ := few_good b2 hd'
        rw [v1, Option.bind_some]
        simp only
        have hmust : sk < pre owed (fn + gn + 1) - pre owed fn → few' = true := by
          intro hlt
          cases few' with
          | true => rfl
          | false =>
            obtain ⟨x, F⟩ := v2.1 rfl
            have a1 := fit_sum b2 F (a := fn) (fn + gn + 1) (by omega) (by omega)
            have a2 := F.sh ⟨(fn : Int), (fn : Int) + gn, ⟨sk, sk⟩⟩ (by rw [← hl']; exact List.mem_append_right _ (List.mem_singleton.2 rfl))
            simp only [Int.toNat_natCast, show ((fn : Int) + gn + 1).toNat = fn + gn + 1 by omega] at a2
            omega
        rcases Round_eq b2 hd' with ⟨hx, w1⟩ | ⟨hx, way, w0, w2, w3, w4, w5, w6, w7⟩
        · have hf : few' = false := v2.2 hx
          subst hf
          rw [w1, Option.bind_some]
          have hnm : ¬ sk < pre owed (fn + gn + 1) - pre owed fn := fun h => by have := hmust h; cases this
          simp only [if_true, if_neg hnm, Bool.false_eq_true, if_false]
          rw [if_pos (by decide), Option.bind_some, if_neg (by decide)]
          rw [each_ok hn b2 r0 hn8 r2 ow]
          rfl
        · have hf : few' = true := by
            cases few' with
            | true => rfl
            | false => exact absurd (v2.1 rfl) hx
          subst hf
          rw [w6, Option.bind_some]
          simp only [if_true]
          have hbb : ∀ d : Bool, d = true → (if sk < pre owed (fn + gn + 1) - pre owed fn then (if (true == d) = true then some false else some true) else (if (true == d) = true then some false else some true)) = some false := by
            intro d hd
            subst hd
            split <;> rfl
          rw [hbb _ (by simp), Option.bind_some, if_neg (by decide), prog_shows b2 hd' (by rw [List.length_map]; omega), rs_way w0 w2 w3 w4 w5, Option.bind_some]
          simp only [if_true]
          rw [if_neg (by omega), each_ok hn b2 r0 hn8 r2 ow]
          rfl
end Go.Proofs.Ytaoaelhmiggepaa
