/- The plain law of TargetDone, the whole. -/
import Derived.Test.YtnllmignponhdaaPDone
namespace Go.Proofs.Ytnllmignponhdaa
open Go.KL

theorem done_loop {real : List Int} (hn : real.length ≤ 8) (hr : ∀ r ∈ real, 0 ≤ r ∧ r ≤ 5) {l : List T_target_Sheet} {S : List T_api_Span} (A : Spans real.length l S) (F : Fit real.length l [] (pre real)) (B : List Int) (st : Int) :
    ∃ B' nx' st' owed, forR (B := Bool) 0 (↑real.length : Int) (fun k114 (l105, x108, x109, l110) =>
        (idx real (↑k114 : Int)).bind fun x146 =>
        (chk (↑k114 : Int) S.length).bind fun _ =>
        (m_klisterlaw03_has (gd S k114) x146).bind fun x162 =>
        if x162 = true then
          (m_klisterkit_Deck_Between (⟨l105, x108, x109⟩ : T_klisterkit_Deck) 0 x146).bind fun (x175, x176) =>
          (app 8 l110 [min 5 x175]).bind fun x194 =>
          some (.inl (x176.bytes, x176.next, x176.state, x194))
        else
          esc (some false)) (B, 0, st, []) = some (.inl (B', nx', st', owed)) ∧ owed.length = real.length ∧ (∀ k ∈ owed, 0 ≤ k ∧ k ≤ 5) ∧ Fit real.length l owed (pre real) := by
  rw [forR_list (by omega)]
  rcases forN_inv (S := List Int × Int × Int × List Int) (B := Bool) (body := fun k114 (l105, x108, x109, l110) =>
        (idx real (↑k114 : Int)).bind fun x146 =>
        (chk (↑k114 : Int) S.length).bind fun _ =>
        (m_klisterlaw03_has (gd S k114) x146).bind fun x162 =>
        if x162 = true then
          (m_klisterkit_Deck_Between (⟨l105, x108, x109⟩ : T_klisterkit_Deck) 0 x146).bind fun (x175, x176) =>
          (app 8 l110 [min 5 x175]).bind fun x194 =>
          some (.inl (x176.bytes, x176.next, x176.state, x194))
        else
          esc (some false)) (fun i s => 0 ≤ s.2.1 ∧ s.2.1 ≤ 10 * i ∧ s.2.2.2.length = i ∧ (∀ k ∈ s.2.2.2, 0 ≤ k ∧ k ≤ 5) ∧ ∀ b k, s.2.2.2[b]? = some k → k ≤ pre real (b + 1) - pre real b) (fun _ => False) real.length 0 (B, 0, st, [])
    ⟨by show (0 : Int) ≤ 0; omega, by show (0 : Int) ≤ _; omega, rfl, fun k hk => (by cases hk), fun b k hk => (by simp at hk)⟩
    (by
      rintro i ⟨b, x, s, l⟩ _ hi ⟨q1, q2, q3, q4, q5⟩
      simp only at q1 q2 q3 q4 q5
      have hlt : i < real.length := by omega
      have h1 := (A.hi i hlt).le _ F
      have h2 := (A.lo i hlt).le _ F
      rw [pre_succ hlt] at h1 h2
      obtain ⟨r0, r1⟩ := hr _ (List.getElem_mem hlt)
      obtain ⟨v, d', e, n0, n1, v0, v1⟩ := deal_ok ⟨b, x, s⟩ 0 real[i] q1 (by show x ≤ _; omega) (by omega) r0 (by omega)
      simp only at n1
      left
      refine ⟨(d'.bytes, d'.next, d'.state, l ++ [min 5 v]), ?_, n0, by show d'.next ≤ _; omega, by simp [q3], fun k hk => ?_, fun c k hk => ?_⟩
      · simp only
        rw [idx_nat, List.getElem?_eq_getElem hlt, Option.bind_some, A.len, chk_ok (by omega) (by omega), Option.bind_some, has_is, Option.bind_some, if_pos (decide_eq_true (by omega)), e, Option.bind_some]
        simp only
        rw [app_ok (by simp only [List.length_cons, List.length_nil]; omega)]
        rfl
      · rcases List.mem_append.1 hk with hk | hk
        · exact q4 k hk
        · have := List.mem_singleton.1 hk
          subst this
          omega
      · simp only at hk
        rcases Nat.lt_or_ge c l.length with hc | hc
        · rw [List.getElem?_append_left hc] at hk
          exact q5 c k hk
        · rw [List.getElem?_append_right hc] at hk
          have : c - l.length = 0 := by
            have := (List.getElem?_eq_some_iff.1 hk).1
            simp at this
            omega
          rw [this] at hk
          simp at hk
          have : c = i := by omega
          subst this
          rw [pre_succ hlt]
          omega) with ⟨⟨B', nx', st', owed⟩, g1, q1, q2, q3, q4, q5⟩ | ⟨_, _, h⟩
  · simp only at q3 q4 q5
    exact ⟨B', nx', st', owed, g1, by omega, q4, ⟨F.sh, F.bo, q5⟩⟩
  · exact h.elim

theorem law_Done (p0 p1 : List Int) (p2 p3 : Int) (h20 : 0 ≤ p2) (h21 : p2 ≤ 255) (h30 : 0 ≤ p3) (h31 : p3 ≤ 255) : m_klisterlaw03_TargetDone p0 p1 p2 p3 = some true := by
  unfold m_klisterlaw03_TargetDone m_klisterkit_Of
  rw [Option.bind_some]
  obtain ⟨real, l, d, e1, n0, n1, r0, r1, r2, l0, l1, l2⟩ := counted_ok (p1 := 8) (p2 := 3) (by decide) (by decide) (by decide) (by decide) p0
  rw [e1, Option.bind_some]
  simp only
  rw [Option.bind_some]
  have hn8 : real.length ≤ 8 := by omega
  have z1 := shErr_zero r0 hn8 (show l.length ≤ 20 by omega) l1
  have hr9 : ∀ r ∈ real, 0 ≤ r ∧ r ≤ 9 := fun r h => by have := r2 r h; omega
  obtain ⟨S, s1, A⟩ := skied_spans z1 ⟨_, l2⟩
  obtain ⟨B', nx', st', owed, g1, o1, o2, F⟩ := done_loop hn8 r2 A l2 p1 17
  rw [s1, Option.bind_some]
  simp only [if_true]
  rw [if_pos (by rw [A.len]), g1, jn_some_inl]
  simp only
  have f1 := Few_false z1 o1 o2 ⟨_, F⟩
  rw [f1, Option.bind_some]
  simp only
  rw [Round_none z1 o1 o2 ⟨_, F⟩, Option.bind_some]
  simp only
  rw [Due_none f1, Option.bind_some]
  simp only [if_true, Bool.false_eq_true, if_false, List.length_nil]
  rw [if_neg (by decide)]
  obtain ⟨f, f2, f3, f4⟩ := rem_in (a := p2) (b := real.length) h20 (by omega)
  rw [w64_in (x := p2) (by omega) (by omega), f2, Option.bind_some, w64_in (x := (real.length : Int) - f) (by omega) (by omega)]
  obtain ⟨g, g2, g3, g4⟩ := rem_in (a := p3) (b := (real.length : Int) - f) h30 (by omega)
  rw [w64_in (x := p3) (by omega) (by omega), g2, Option.bind_some, w64_in (x := f + g) (by omega) (by omega), w64_in (x := f + g + 1) (by omega) (by omega)]
  have hcut : cut real f (f + g + 1) = some ((real.drop f.toNat).take ((f + g + 1).toNat - f.toNat)) := if_pos ⟨by omega, by omega, by omega⟩
  rw [hcut, Option.bind_some, sum_cut hr9 (by omega) (by omega) (by omega), Option.bind_some]
  obtain ⟨y, ok, ks, c1, c2, c3, c4⟩ := counted_good z1
  have hb := between_prog hn8 c1 c2 f (f + g)
  rw [if_pos ⟨by omega, by omega, by omega⟩] at hb
  cases ok with
  | false => exact (c2.none _ ((c4 _).2 l2) (l2.far hn8)).elim
  | true =>
    simp only [if_true] at hb
    rw [hb, Option.bind_some]
    simp only [if_true]
    have top : ∀ a b, a ≤ real.length → b ≤ real.length → Top real.length l a b (mx y a b) := fun a b ha hb =>
      ⟨fun x F => c2.fe _ ((c4 _).2 F) (F.far (by omega)) a b ha hb, _, (c4 _).1 (c2.pot c3 ha), by have := c2.dg rfl a ha; show mx y a b - mx y a a = _; omega⟩
    obtain ⟨fn, rfl⟩ : ∃ m : Nat, f = m := ⟨f.toNat, by omega⟩
    obtain ⟨gn, rfl⟩ : ∃ m : Nat, g = m := ⟨g.toNat, by omega⟩
    have et : ((fn : Int) + gn + 1).toNat = fn + gn + 1 := by omega
    rw [et, Int.toNat_natCast]
    have T1 := top fn (fn + gn + 1) (by omega) (by omega)
    have T2 := top (fn + gn + 1) fn (by omega) (by omega)
    have i1 := T1.le _ l2
    have i2 := T2.le _ l2
    rw [has_is, Option.bind_some, if_pos (decide_eq_true (by simp only; omega))]
    have j1 : 0 ≤ -(mx y (fn + gn + 1) fn) := by
      obtain ⟨x, X, e⟩ := T2.at_
      have := X.gap (a := fn) (fn + gn + 1) (by omega) (by omega)
      omega
    have j2 : mx y fn (fn + gn + 1) ≤ 9 * ((gn : Int) + 1) := by
      obtain ⟨x, X, e⟩ := T1.at_
      have := X.gap (a := fn) (fn + gn + 1) (by omega) (by omega)
      omega
    have ew : w64 (9 * (w64 ((w64 ((fn : Int) + gn - fn)) + 1))) = 9 * ((gn : Int) + 1) := by
      rw [w64_in (x := (fn : Int) + gn - fn) (by omega) (by omega), w64_in (x := (fn : Int) + gn - fn + 1) (by omega) (by omega), w64_in (by omega) (by omega)]
      omega
    rw [if_neg (by omega), ew, if_neg (by omega)]
    generalize hlo : -(mx y (fn + gn + 1) fn) = lo at *
    generalize hhi : mx y fn (fn + gn + 1) = hi at *
    have T2' : Top real.length l (fn + gn + 1) fn (-lo) := by rw [show -lo = mx y (fn + gn + 1) fn by omega]; exact T2
    rw [w64_in (x := lo - 1) (by omega) (by omega), w64_in (x := hi + 1) (by omega) (by omega)]
    obtain ⟨b, b1, b2⟩ := iter_inv (S := Int) (B := Bool) (body := fun x470 =>
                          if x470 ≤ (min 72 (hi + 1)) then
                            (m_klisterkit_Clone_target_Sheet l).bind fun x492 =>
                            (m_klisterlaw03_span x470 x470).bind fun x505 =>
                            (app 32 x492 [(⟨(fn : Int), (fn : Int) + gn, x505⟩ : T_target_Sheet)]).bind fun x520 =>
                            (m_target_Skied (↑real.length : Int) x520).bind fun (x533, x534) =>
                            if x534 = 0 then
                              (m_klisterlaw03_has ⟨lo, hi⟩ x470).bind fun x549 =>
                              if ((decide (x534 = 0)) == x549) = true then
                                some (.inl (w64 (x470 + 1)))
                              else
                                esc (some false)
                            else
                              if x534 = 7 then
                                (m_klisterlaw03_has ⟨lo, hi⟩ x470).bind fun x569 =>
                                if ((decide (x534 = 0)) == x569) = true then
                                  some (.inl (w64 (x470 + 1)))
                                else
                                  esc (some false)
                              else
                                esc (some false)
                          else
                            esc ((m_klisterlaw03_awake).bind fun x594 =>
                            some x594)) (fun i k => k = max 0 (lo - 1) + i) (fun b => b = true) (min 72 (hi + 1) + 1 - max 0 (lo - 1)).toNat (s0 := max 0 (lo - 1)) (by omega)
      (by
        intro i k hi' hk
        refine ⟨k + 1, ?_, by omega⟩
        have k0 : 0 ≤ k := by omega
        have k1 : k ≤ 72 := by omega
        rw [if_pos (by omega)]
        have eC : m_klisterkit_Clone_target_Sheet l = some l := by
          unfold m_klisterkit_Clone_target_Sheet
          rw [app_ok (by simp only [List.length_nil]; omega)]
          rfl
        unfold m_klisterlaw03_span
        obtain ⟨Q, q⟩ := skied_with z1 l0 (f := fn) (t := fn + gn) (by omega) (by omega) T2' T1 k0 k1
        rw [eC, Option.bind_some, Option.bind_some, app_ok (by simp only [List.length_cons, List.length_nil]; omega), Option.bind_some]
        have q' : m_target_Skied (↑real.length : Int) (l ++ [(⟨(fn : Int), (fn : Int) + gn, ⟨k, k⟩⟩ : T_target_Sheet)]) = some (Q, if lo ≤ k ∧ k ≤ hi then 0 else 7) := q
        rw [q', Option.bind_some]
        simp only
        rw [has_is, w64_in (x := k + 1) (by omega) (by omega)]
        by_cases c : lo ≤ k ∧ k ≤ hi
        · rw [if_pos c, if_pos rfl, Option.bind_some, decide_eq_true c]
          rfl
        · rw [if_neg c, if_neg (by decide), if_pos rfl, Option.bind_some, decide_eq_false c]
          rfl)
      (by
        intro k hk
        refine ⟨true, ?_, rfl⟩
        rw [if_neg (by omega)]
        rfl) (by omega)
    rw [b1, b2]
end Go.Proofs.Ytnllmignponhdaa
