/- The plain law of TargetWider. -/
import Derived.Test.YtnllmignponhdaaPWideB
namespace Go.Proofs.Ytnllmignponhdaa
open Go.KL

theorem wide_true {b a : T_api_Span} (h1 : b.Lo ≤ a.Lo) (h2 : a.Hi ≤ b.Hi) : m_klisterlaw03_wide b a = some true := by
  unfold m_klisterlaw03_wide
  rw [if_pos h1, decide_eq_true h2]

/-- The loop that makes wider sheets, and those that are told backwards. -/
theorem loosen {n : Nat} (hn : n ≤ 8) {l : List T_target_Sheet} (hl : l.length ≤ 8) (hs : ∀ s ∈ l, okSheet n s) (B : List Int) (st : Int) :
    ∃ B' nx' st' l', forR' 0 (↑l.length : Int) (fun k113 (l103, x106, x107, l108, l109) =>
    (idx l (↑k113 : Int)).bind fun x149 =>
    ((m_klisterkit_Deck_Draw (⟨l103, x106, x107⟩ : T_klisterkit_Deck) 3).bind fun (x174, x175) =>
    (m_klisterkit_Deck_Draw x175 3).bind fun (x189, x190) =>
    (m_klisterlaw03_span (max 0 (w64 (x149.Loops.Lo - x174))) (min 72 (w64 (x149.Loops.Hi + x189)))).bind fun x203 =>
    (chk (↑k113 : Int) l108.length).bind fun _ =>
    some (x190.bytes, x190.next, x190.state, (List.set l108 k113 (⟨(gd l108 k113).From, (gd l108 k113).To, x203⟩ : T_target_Sheet)))).bind fun (l165, x168, x169, l170) =>
    (app 32 l109 [(⟨w64 ((w64 ((n : Int) - 1)) - x149.To), w64 ((w64 ((n : Int) - 1)) - x149.From), x149.Loops⟩ : T_target_Sheet)]).bind fun x698 =>
    some (l165, x168, x169, l170, x698)) (B, 0, st, l, []) = some (B', nx', st', l', l.map (turn n)) ∧ 0 ≤ nx' ∧ nx' ≤ 1000 ∧ Loose l l' := by
  rw [forR'_list (by omega)]
  obtain ⟨⟨B', nx', st', l', bk⟩, g1, g2⟩ := forN'_inv (S := List Int × Int × Int × List T_target_Sheet × List T_target_Sheet) (body := fun k113 (l103, x106, x107, l108, l109) =>
    (idx l (↑k113 : Int)).bind fun x149 =>
    ((m_klisterkit_Deck_Draw (⟨l103, x106, x107⟩ : T_klisterkit_Deck) 3).bind fun (x174, x175) =>
    (m_klisterkit_Deck_Draw x175 3).bind fun (x189, x190) =>
    (m_klisterlaw03_span (max 0 (w64 (x149.Loops.Lo - x174))) (min 72 (w64 (x149.Loops.Hi + x189)))).bind fun x203 =>
    (chk (↑k113 : Int) l108.length).bind fun _ =>
    some (x190.bytes, x190.next, x190.state, (List.set l108 k113 (⟨(gd l108 k113).From, (gd l108 k113).To, x203⟩ : T_target_Sheet)))).bind fun (l165, x168, x169, l170) =>
    (app 32 l109 [(⟨w64 ((w64 ((n : Int) - 1)) - x149.To), w64 ((w64 ((n : Int) - 1)) - x149.From), x149.Loops⟩ : T_target_Sheet)]).bind fun x698 =>
    some (l165, x168, x169, l170, x698)) (fun i s => 0 ≤ s.2.1 ∧ s.2.1 ≤ 10 * i ∧ s.2.2.2.2 = (l.take i).map (turn n) ∧ s.2.2.2.1.length = l.length ∧
      ∀ k, k < l.length → (gd s.2.2.2.1 k).From = (gd l k).From ∧ (gd s.2.2.2.1 k).To = (gd l k).To ∧ 0 ≤ (gd s.2.2.2.1 k).Loops.Lo ∧ (gd s.2.2.2.1 k).Loops.Lo ≤ (gd l k).Loops.Lo ∧ (gd l k).Loops.Hi ≤ (gd s.2.2.2.1 k).Loops.Hi ∧ (gd s.2.2.2.1 k).Loops.Hi ≤ 72) l.length 0 (B, 0, st, l, [])
    ⟨by show (0 : Int) ≤ 0; omega, by show (0 : Int) ≤ _; omega, rfl, rfl, fun k hk => by
      obtain ⟨a0, a1, a2, a3, a4, a5⟩ := hs (gd l k) (List.mem_of_getElem? (gd_at hk))
      refine ⟨rfl, rfl, ?_, ?_, ?_, ?_⟩ <;> simp only <;> omega⟩
    (by
      rintro i ⟨b, x, s, ll, bk⟩ _ hi ⟨q1, q2, q3, q4, q5⟩
      simp only at q1 q2 q3 q4 q5
      have hlt : i < l.length := by omega
      have hgd : gd l i = l[i] := by
        have := gd_at hlt
        rw [List.getElem?_eq_getElem hlt] at this
        exact (Option.some.inj this).symm
      obtain ⟨a0, a1, a2, a3, a4, a5⟩ := hs l[i] (List.getElem_mem hlt)
      obtain ⟨v, u3, v1, v2, v3, v4, v5⟩ := draw_ok ⟨b, x, s⟩ 3 q1 (by show x ≤ _; omega)
      simp only at v3
      obtain ⟨v', u4, v1', v2', v3', v4', v5'⟩ := draw_ok u3 3 v2 (by omega)
      refine ⟨(u4.bytes, u4.next, u4.state, ll.set i ⟨(gd ll i).From, (gd ll i).To, ⟨max 0 (l[i].Loops.Lo - v), min 72 (l[i].Loops.Hi + v')⟩⟩, bk ++ [turn n l[i]]), ?_, v2', by show u4.next ≤ _; omega, ?_, by simp [q4], fun k hk => ?_⟩
      · simp only
        rw [idx_nat, List.getElem?_eq_getElem hlt, Option.bind_some, v1, Option.bind_some]
        simp only
        rw [v1', Option.bind_some]
        simp only
        unfold m_klisterlaw03_span
        rw [Option.bind_some, chk_ok (by omega) (by omega), Option.bind_some, Option.bind_some]
        simp only
        rw [w64_in (x := (n : Int) - 1) (by omega) (by omega), w64_in (x := (n : Int) - 1 - l[i].To) (by omega) (by omega), w64_in (x := (n : Int) - 1 - l[i].From) (by omega) (by omega), w64_in (x := l[i].Loops.Lo - v) (by omega) (by omega), w64_in (x := l[i].Loops.Hi + v') (by omega) (by omega),
          app_ok (by rw [q3]; simp only [List.length_map, List.length_take, List.length_cons, List.length_nil]; omega)]
        rfl
      · simp only
        rw [q3, List.take_add_one, List.getElem?_eq_getElem hlt, List.map_append]
        rfl
      · simp only
        rw [gd_set (by omega) (by omega)]
        by_cases e : k = i
        · subst e
          rw [if_pos rfl]
          obtain ⟨b1, b2, _⟩ := q5 k hlt
          rw [hgd] at b1 b2 ⊢
          refine ⟨b1, b2, ?_, ?_, ?_, ?_⟩ <;> simp only <;> omega
        · rw [if_neg e]
          exact q5 k hk)
  obtain ⟨q1, q2, q3, q4, q5⟩ := g2
  simp only at q1 q2 q3 q4 q5
  rw [Nat.zero_add, List.take_length] at q3
  subst q3
  exact ⟨B', nx', st', l', g1, q1, by omega, q4, q5⟩

theorem law_Wider (p0 p1 : List Int) : m_klisterlaw03_TargetWider p0 p1 = some true := by
  unfold m_klisterlaw03_TargetWider m_klisterkit_Of
  rw [Option.bind_some]
  obtain ⟨real, l, d, e1, n0, n1, r0, r1, r2, l0, l1, l2⟩ := counted_ok (p1 := 7) (p2 := 2) (by decide) (by decide) (by decide) (by decide) p0
  rw [e1, Option.bind_some]
  simp only
  rw [Option.bind_some]
  have eC : m_klisterkit_Clone_target_Sheet l = some l := by
    unfold m_klisterkit_Clone_target_Sheet
    rw [app_ok (by simp only [List.length_nil]; omega)]
    rfl
  obtain ⟨B', nx', st', l', e2, m0, m1, hL⟩ := loosen (n := real.length) (by omega) l0 l1 p1 17
  rw [eC, Option.bind_some, e2, Option.bind_some]
  simp only
  obtain ⟨B2, x2, s2, owed, e3, _, _, o2, o3⟩ := dealt real.length 6 (by decide) B' nx' st' m0 (by omega) (by omega)
  rw [forR'_list (n := real.length) (by omega), e3, Option.bind_some]
  simp only
  have eI : m_klisterkit_Clone_int owed = some owed := by
    unfold m_klisterkit_Clone_int
    rw [app_ok (by simp only [List.length_nil]; omega)]
    rfl
  rw [eI, Option.bind_some, reverse_eq (by omega), Option.bind_some]
  have hn8 : real.length ≤ 8 := by omega
  have hLl : l'.length = l.length := hL.1
  have z1 := shErr_zero r0 hn8 (show l.length ≤ 20 by omega) l1
  have z2 := shErr_zero r0 hn8 (show l'.length ≤ 20 by omega) (hL.ok l1)
  have lb : ∀ s ∈ l.map (turn real.length), okSheet real.length s := fun s h => by obtain ⟨s, hm, rfl⟩ := List.mem_map.1 h; exact turn_ok (l1 s hm)
  have z3 := shErr_zero r0 hn8 (show (l.map (turn real.length)).length ≤ 20 by rw [List.length_map]; omega) lb
  obtain ⟨a, a1, A⟩ := skied_spans z1 ⟨_, l2⟩
  obtain ⟨b, b1, Bs⟩ := skied_spans z2 ⟨_, hL.fit l2⟩
  have turned : ∀ x, Fit real.length l [] x → Fit real.length (l.map (turn real.length)) [] (fun b => -(x (real.length - b))) := fun x F => fit_turn l1 (.inl rfl) F
  have turned' : ∀ x, Fit real.length (l.map (turn real.length)) [] x → Fit real.length l [] (fun b => -(x (real.length - b))) := fun x F => fit_turned l1 (owed := []) (.inl rfl) F
  obtain ⟨c, c1, C⟩ := skied_spans z3 ⟨_, turned _ l2⟩
  have ow : ∀ k ∈ owed, 0 ≤ k ∧ k ≤ 5 := fun k hk => by have := o3 k hk; omega
  obtain ⟨f1, g1, h1⟩ := few_eq z1 o2 ow
  obtain ⟨f2, g2, h2⟩ := few_eq z2 o2 ow
  obtain ⟨f3, g3, h3⟩ := few_eq z3 (owed := owed.reverse) (by rw [List.length_reverse, o2]) (fun k hk => ow k (List.mem_reverse.1 hk))
  have k12 : f1 = false → f2 = false := fun h => by
    obtain ⟨x, F⟩ := h1.1 h
    exact h2.2 ⟨x, hL.fit F⟩
  have k13 : f1 = f3 := by
    cases f1 with
    | false =>
      obtain ⟨x, F⟩ := h1.1 rfl
      exact (h3.2 ⟨_, fit_turn l1 (.inr o2) F⟩).symm
    | true =>
      cases f3 with
      | true => rfl
      | false =>
        obtain ⟨x, F⟩ := h3.1 rfl
        exact h1.2 ⟨_, fit_turned l1 (.inr o2) F⟩
  rw [a1, Option.bind_some]
  simp only
  rw [b1, Option.bind_some]
  simp only
  rw [c1, Option.bind_some]
  simp only [if_true]
  rw [if_pos (by rw [A.len]), if_pos (by rw [Bs.len]), if_pos (by rw [C.len]), forR_list (n := real.length) (by omega)]
  have loop1 : forN (S := Unit) (B := Bool) (fun k992 _ =>
                (chk (↑k992 : Int) b.length).bind fun _ =>
                (chk (↑k992 : Int) a.length).bind fun _ =>
                (m_klisterlaw03_wide (gd b k992) (gd a k992)).bind fun x1031 =>
                if x1031 = true then
                  (chk (w64 ((w64 ((↑real.length : Int) - 1)) - (↑k992 : Int))) c.length).bind fun _ =>
                  if (gd c (w64 ((w64 ((↑real.length : Int) - 1)) - (↑k992 : Int))).toNat) = (gd a k992) then
                    some (.inl ())
                  else
                    esc (some false)
                else
                  esc (some false)) real.length 0 () = some (.inl ()) := by
    rcases forN_inv (S := Unit) (B := Bool) (body := fun k992 _ =>
                (chk (↑k992 : Int) b.length).bind fun _ =>
                (chk (↑k992 : Int) a.length).bind fun _ =>
                (m_klisterlaw03_wide (gd b k992) (gd a k992)).bind fun x1031 =>
                if x1031 = true then
                  (chk (w64 ((w64 ((↑real.length : Int) - 1)) - (↑k992 : Int))) c.length).bind fun _ =>
                  if (gd c (w64 ((w64 ((↑real.length : Int) - 1)) - (↑k992 : Int))).toNat) = (gd a k992) then
                    some (.inl ())
                  else
                    esc (some false)
                else
                  esc (some false)) (fun _ _ => True) (fun _ => False) real.length 0 () trivial
      (by
        intro i _ _ hi _
        have hi' : i < real.length := by omega
        have t1 := A.hi i hi'
        have t2 := Bs.hi i hi'
        have t3 := A.lo i hi'
        have t4 := Bs.lo i hi'
        have s1 := t1.mono t2 (fun x F => hL.fit F)
        have s2 := t3.mono t4 (fun x F => hL.fit F)
        have ew : w64 ((w64 ((↑real.length : Int) - 1)) - (↑i : Int)) = ((real.length - 1 - i : Nat) : Int) := by
          rw [w64_in (x := (real.length : Int) - 1) (by omega) (by omega), w64_in (by omega) (by omega)]
          omega
        refine .inl ⟨(), ?_, trivial⟩
        rw [Bs.len, A.len, C.len, chk_ok (by omega) (by omega), Option.bind_some, Option.bind_some, wide_true (by omega) s1, Option.bind_some, if_pos rfl, ew, chk_ok (by omega) (by omega), Option.bind_some, Int.toNat_natCast, if_pos]
        have u1 := C.hi (real.length - 1 - i) (by omega)
        have u2 := C.lo (real.length - 1 - i) (by omega)
        have e : real.length - 1 - i + 1 = real.length - i := by omega
        rw [e] at u1 u2
        have d1 := t1.uniq u1 (fun x F => ⟨_, turned x F, by simp only [show real.length - (real.length - i) = i by omega, show real.length - (real.length - 1 - i) = i + 1 by omega]; omega⟩)
          (fun x F => ⟨_, turned' x F, by simp only [show real.length - (i + 1) = real.length - 1 - i by omega]; omega⟩)
        have d2 := t3.uniq u2 (fun x F => ⟨_, turned x F, by simp only [show real.length - (real.length - i) = i by omega, show real.length - (real.length - 1 - i) = i + 1 by omega]; omega⟩)
          (fun x F => ⟨_, turned' x F, by simp only [show real.length - (i + 1) = real.length - 1 - i by omega]; omega⟩)
        have d3 : (gd a i).Lo = (gd c (real.length - 1 - i)).Lo := by omega
        cases hA : gd a i with
        | mk lo hi2 =>
          cases hC : gd c (real.length - 1 - i) with
          | mk lo' hi2' =>
            rw [hA, hC] at d1 d3
            simp only at d1 d3
            rw [d1, d3]) with ⟨_, h, _⟩ | ⟨_, _, h⟩
    · exact h
    · exact h.elim
  rw [loop1, jn_some_inl]
  have fin : ∀ {R : Option Bool}, R = (if f1 = true then if (f1 == f3) = true then (m_klisterlaw03_awake).bind fun x1271 => some x1271 else some false else if f2 = true then some false else if (f1 == f3) = true then (m_klisterlaw03_awake).bind fun x1288 => some x1288 else some false) → R = some true := by
    intro R hR
    rw [hR, ← k13]
    cases f1 with
    | true => rfl
    | false => rw [k12 rfl]; rfl
  by_cases hl : 0 < (l.length : Int)
  · rw [if_pos hl]
    have hcut : cut l 1 (l.length : Int) = some (l.drop 1) := by
      unfold cut
      rw [if_pos ⟨by omega, by omega, by omega⟩]
      congr 1
      apply List.take_of_length_le
      rw [List.length_drop]
      omega
    have sub : ∀ {o : List Int} (x), Fit real.length l o x → Fit real.length (l.drop 1) o x := fun x F => ⟨fun s hs => F.sh s (List.mem_of_mem_drop hs), F.bo, F.ow⟩
    have z4 := shErr_zero r0 hn8 (show (l.drop 1).length ≤ 20 by rw [List.length_drop]; omega) (fun s hs => l1 s (List.mem_of_mem_drop hs))
    obtain ⟨w, w1, Ws⟩ := skied_spans z4 ⟨_, sub _ l2⟩
    rw [hcut, Option.bind_some, w1, Option.bind_some]
    simp only [if_true]
    rw [if_pos (by rw [Ws.len]), forR_list (n := real.length) (by omega)]
    have loop2 : forN (S := Unit) (B := Bool) (fun k1118 _ =>
                      (chk (↑k1118 : Int) w.length).bind fun _ =>
                      (chk (↑k1118 : Int) a.length).bind fun _ =>
                      (m_klisterlaw03_wide (gd w k1118) (gd a k1118)).bind fun x1155 =>
                      if x1155 = true then
                        some (.inl ())
                      else
                        esc (some false)) real.length 0 () = some (.inl ()) := by
      rcases forN_inv (S := Unit) (B := Bool) (body := fun k1118 _ =>
                      (chk (↑k1118 : Int) w.length).bind fun _ =>
                      (chk (↑k1118 : Int) a.length).bind fun _ =>
                      (m_klisterlaw03_wide (gd w k1118) (gd a k1118)).bind fun x1155 =>
                      if x1155 = true then
                        some (.inl ())
                      else
                        esc (some false)) (fun _ _ => True) (fun _ => False) real.length 0 () trivial
        (by
          intro i _ _ hi _
          have hi' : i < real.length := by omega
          have s1 := (A.hi i hi').mono (Ws.hi i hi') sub
          have s2 := (A.lo i hi').mono (Ws.lo i hi') sub
          refine .inl ⟨(), ?_, trivial⟩
          rw [Ws.len, A.len, chk_ok (by omega) (by omega), Option.bind_some, Option.bind_some, wide_true (by omega) s1, Option.bind_some, if_pos rfl]) with ⟨_, h, _⟩ | ⟨_, _, h⟩
      · exact h
      · exact h.elim
    rw [loop2, jn_some_inl, g1, Option.bind_some]
    simp only
    rw [g2, Option.bind_some]
    simp only
    rw [g3, Option.bind_some]
    simp only [if_true]
    exact fin rfl
  · rw [if_neg hl, g1, Option.bind_some]
    simp only
    rw [g2, Option.bind_some]
    simp only
    rw [g3, Option.bind_some]
    simp only [if_true]
    exact fin rfl
end Go.Proofs.Ytnllmignponhdaa
