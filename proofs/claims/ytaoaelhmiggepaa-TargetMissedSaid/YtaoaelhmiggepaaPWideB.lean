/- What decks deal: bouts with what was really skied, and sheets that it fits. -/
import Derived.Test.YtaoaelhmiggepaaPWideA
namespace Go.Proofs.Ytaoaelhmiggepaa
open Go.KL

theorem rem_in {a b : Int} (h0 : 0 ≤ a) (hb : 0 < b) : ∃ x, rem a b = some x ∧ 0 ≤ x ∧ x < b := by
  refine ⟨a.tmod b, if_neg (by omega), ?_, ?_⟩
  · rw [Int.tmod_eq_emod_of_nonneg h0]; exact Int.emod_nonneg _ (by omega)
  · rw [Int.tmod_eq_emod_of_nonneg h0]; exact Int.emod_lt_of_pos _ hb
theorem wu32_lo (x : Int) : 0 ≤ wu32 x := by unfold wu32; omega
theorem wu32_hi (x : Int) : wu32 x < 4294967296 := by unfold wu32; omega
theorem w64u (x : Int) : w64 (wu32 x) = wu32 x := by
  have := wu32_lo x
  have := wu32_hi x
  exact w64_in (by omega) (by omega)
theorem quo_some (a : Int) {b : Int} (hb : b ≠ 0) : ∃ x, quo a b = some x := ⟨_, if_neg hb⟩

theorem draw_ok (d : T_klisterkit_Deck) (n : Int) (h0 : 0 ≤ d.next) (h1 : d.next ≤ 1000000) : ∃ x d', m_klisterkit_Deck_Draw d n = some (x, d') ∧ 0 ≤ d'.next ∧ d'.next ≤ d.next + 1 ∧ 0 ≤ x ∧ (x < n ∨ (n ≤ 1 ∧ x = 0)) := by
  unfold m_klisterkit_Deck_Draw
  by_cases hn : n ≤ 1
  · exact ⟨0, d, by rw [if_pos hn], h0, by omega, by omega, .inr ⟨hn, rfl⟩⟩
  rw [if_neg hn]
  by_cases hl : (d.bytes.length : Int) = 0
  · exact ⟨0, d, by rw [if_pos hl], h0, by omega, by omega, .inl (by omega)⟩
  rw [if_neg hl]
  obtain ⟨r, e1, r0, r1⟩ := rem_in h0 (show (0 : Int) < d.bytes.length by omega)
  obtain ⟨b, e2⟩ : ∃ b, idx d.bytes r = some b := by
    unfold idx
    rw [if_pos r0, List.getElem?_eq_getElem (by omega)]
    exact ⟨_, rfl⟩
  obtain ⟨q, e3⟩ := quo_some d.next (b := d.bytes.length) hl
  obtain ⟨st, e4, _, _⟩ := rem_in (wu32_lo ((wu32 ((wu32 ((wu32 (d.state * 45)) + (wu32 b))) + (wu32 (77 * (wu32 q))))) + 1)) (b := 65519) (by decide)
  rw [e1, Option.bind_some, e2, Option.bind_some, e3, Option.bind_some, e4, Option.bind_some, w64_in (x := d.next + 1) (by omega) (by omega)]
  have fin : ∀ z : Int, ∃ x d', ((rem (w64 (wu32 z)) n).bind fun x => some (x, (⟨d.bytes, d.next + 1, st⟩ : T_klisterkit_Deck))) = some (x, d') ∧ 0 ≤ d'.next ∧ d'.next ≤ d.next + 1 ∧ 0 ≤ x ∧ (x < n ∨ (n ≤ 1 ∧ x = 0)) := by
    intro z
    obtain ⟨x, e5, x0, x1⟩ := rem_in (a := w64 (wu32 z)) (b := n) (by rw [w64u]; exact wu32_lo z) (by omega)
    exact ⟨x, _, by rw [e5]; rfl, by show 0 ≤ d.next + 1; omega, by show d.next + 1 ≤ _; omega, x0, .inl x1⟩
  by_cases c1 : wu32 q = 0
  · rw [if_pos c1]
    by_cases c2 : n ≤ 256
    · rw [if_pos c2]; exact fin _
    · rw [if_neg c2]; exact fin _
  · rw [if_neg c1]; exact fin _
theorem deal_ok (d : T_klisterkit_Deck) (a b : Int) (h0 : 0 ≤ d.next) (h1 : d.next ≤ 1000000) (ha : -1000000 ≤ a) (hab : a ≤ b) (hb : b ≤ 1000000) : ∃ x d', m_klisterkit_Deck_Between d a b = some (x, d') ∧ 0 ≤ d'.next ∧ d'.next ≤ d.next + 1 ∧ a ≤ x ∧ x ≤ b := by
  unfold m_klisterkit_Deck_Between
  rw [w64_in (x := b - a) (by omega) (by omega), w64_in (x := b - a + 1) (by omega) (by omega)]
  obtain ⟨x, d', e, n0, n1, x0, x1⟩ := draw_ok d (b - a + 1) h0 h1
  refine ⟨a + x, d', ?_, n0, n1, by omega, by omega⟩
  rw [e, Option.bind_some]
  simp only
  rw [w64_in (by omega) (by omega)]

theorem pre_cut {l : List Int} {a b : Nat} (hab : a ≤ b) : ((l.drop a).take (b - a)).sum = pre l b - pre l a := by
  unfold pre
  rw [show b = a + (b - a) from by omega, List.take_add, List.sum_append, show a + (b - a) - a = b - a from by omega]
  omega

/-- Numbers that a deck deals. -/
theorem dealt (m : Nat) (n : Int) (hn : 1 < n) (B : List Int) (nx st : Int) (h0 : 0 ≤ nx) (h1 : nx + m ≤ 1000000) (hm : m ≤ 1000) :
    ∃ B' nx' st' l, forN' (fun (_ : Nat) ((l44, x47, x48, l49) : List Int × Int × Int × List Int) =>
    (m_klisterkit_Deck_Draw (⟨l44, x47, x48⟩ : T_klisterkit_Deck) n).bind fun (x81, x82) =>
    (app 8 l49 [x81]).bind fun x100 =>
    some (x82.bytes, x82.next, x82.state, x100)) m 0 (B, nx, st, []) = some (B', nx', st', l) ∧ 0 ≤ nx' ∧ nx' ≤ nx + m ∧ l.length = m ∧ ∀ k ∈ l, 0 ≤ k ∧ k < n := by
  obtain ⟨⟨B', nx', st', l⟩, g1, g2⟩ := forN'_inv (S := List Int × Int × Int × List Int) (body := fun (_ : Nat) ((l44, x47, x48, l49) : List Int × Int × Int × List Int) =>
    (m_klisterkit_Deck_Draw (⟨l44, x47, x48⟩ : T_klisterkit_Deck) n).bind fun (x81, x82) =>
    (app 8 l49 [x81]).bind fun x100 =>
    some (x82.bytes, x82.next, x82.state, x100)) (fun i s => 0 ≤ s.2.1 ∧ s.2.1 ≤ nx + i ∧ s.2.2.2.length = i ∧ ∀ k ∈ s.2.2.2, 0 ≤ k ∧ k < n) m 0 (B, nx, st, [])
    ⟨h0, by show nx ≤ _; omega, rfl, fun k hk => by cases hk⟩
    (by
      rintro i ⟨b, x, s, l⟩ _ hi ⟨c1, c2, c3, c4⟩
      simp only at c1 c2 c3 c4
      obtain ⟨y, d', e, n0, n1, y0, y1⟩ := draw_ok ⟨b, x, s⟩ n c1 (by show x ≤ _; omega)
      simp only at n1
      refine ⟨(d'.bytes, d'.next, d'.state, l ++ [y]), ?_, n0, by show d'.next ≤ _; omega, by simp [c3], fun k hk => ?_⟩
      · simp only
        rw [e, Option.bind_some]
        simp only
        rw [app_ok (by simp only [List.length_cons, List.length_nil]; omega)]
        rfl
      · rcases List.mem_append.1 hk with hk | hk
        · exact c4 k hk
        · have := List.mem_singleton.1 hk
          subst this
          omega)
  obtain ⟨c1, c2, c3, c4⟩ := g2
  simp only at c1 c2 c3 c4
  exact ⟨B', nx', st', l, g1, c1, by omega, by omega, c4⟩

theorem counted_ok {p1 p2 : Int} (hp1 : 1 ≤ p1) (hp1' : p1 ≤ 8) (hp2 : 0 ≤ p2) (hp2' : p2 ≤ 20) (B : List Int) : ∃ real l d', m_klisterlaw03_Counted ⟨B, 0, 17⟩ p1 p2 = some (real, l, d') ∧ 0 ≤ d'.next ∧ d'.next ≤ 1000 ∧
    1 ≤ real.length ∧ (real.length : Int) ≤ p1 ∧ (∀ r ∈ real, 0 ≤ r ∧ r ≤ 5) ∧ l.length ≤ 8 ∧ (∀ s ∈ l, okSheet real.length s) ∧ Fit real.length l [] (pre real) := by
  unfold m_klisterlaw03_Counted
  obtain ⟨n, d1, e1, a0, a1, a2, a3⟩ := deal_ok ⟨B, 0, 17⟩ 1 p1 (by show (0 : Int) ≤ 0; omega) (by show (0 : Int) ≤ 1000000; omega) (by omega) hp1 (by omega)
  rw [e1, Option.bind_some]
  simp only at a1 ⊢
  obtain ⟨m, rfl⟩ : ∃ m : Nat, n = m := ⟨n.toNat, by omega⟩
  obtain ⟨B2, x2, s2, real, e2, b0, b1, b2, b3⟩ := dealt m 6 (by decide) d1.bytes d1.next d1.state a0 (by omega) (by omega)
  rw [forR'_list (by omega), e2, Option.bind_some]
  simp only
  obtain ⟨k, d3, e3, c0, c1, c2, c3⟩ := draw_ok ⟨B2, x2, s2⟩ 9 b0 (by show x2 ≤ _; omega)
  rw [e3, Option.bind_some]
  simp only at c1 ⊢
  obtain ⟨j, rfl⟩ : ∃ j : Nat, k = j := ⟨k.toNat, by omega⟩
  have hj : j ≤ 8 := by omega
  have hr : ∀ r ∈ real, 0 ≤ r ∧ r ≤ 9 := fun r hr => by have := b3 r hr; omega
  rw [forR'_list (by omega)]
  obtain ⟨⟨B4, x4, s4, l⟩, g1, g2⟩ := forN'_inv (S := List Int × Int × Int × List T_target_Sheet) (body := fun k203 (l194, x197, x198, l199) =>
    (m_klisterkit_Deck_Draw (⟨l194, x197, x198⟩ : T_klisterkit_Deck) (↑real.length : Int)).bind fun (x233, x234) =>
    (m_klisterkit_Deck_Between x234 x233 (w64 ((↑real.length : Int) - 1))).bind fun (x247, x248) =>
    (cut real x233 (w64 (x247 + 1))).bind fun x268 =>
    (forR' 0 (↑x268.length : Int) (fun k289 x288 =>
      (idx x268 (↑k289 : Int)).bind fun x317 =>
      some (w64 (x288 + x317))) 0).bind fun y294 =>
    (m_klisterkit_Deck_Draw x248 (w64 (p2 + 1))).bind fun (x346, x347) =>
    (m_klisterkit_Deck_Draw x347 (w64 (p2 + 1))).bind fun (x361, x362) =>
    (m_klisterlaw03_span (max 0 (w64 (y294 - x346))) (min 72 (w64 (y294 + x361)))).bind fun x375 =>
    (app 32 l199 [(⟨x233, x247, x375⟩ : T_target_Sheet)]).bind fun x393 =>
    some (x362.bytes, x362.next, x362.state, x393)) (fun i s => 0 ≤ s.2.1 ∧ s.2.1 ≤ 100 + 10 * i ∧ s.2.2.2.length = i ∧ ∀ t ∈ s.2.2.2, okSheet real.length t ∧ t.Loops.Lo ≤ pre real (t.To + 1).toNat - pre real t.From.toNat ∧ pre real (t.To + 1).toNat - pre real t.From.toNat ≤ t.Loops.Hi) j 0 (d3.bytes, d3.next, d3.state, [])
    ⟨c0, by show d3.next ≤ _; omega, rfl, fun t ht => by cases ht⟩
    (by
      rintro i ⟨b, x, s, l⟩ _ hi ⟨q1, q2, q3, q4⟩
      simp only at q1 q2 q3 q4
      obtain ⟨f, u1, f1, f2, f3, f4, f5⟩ := draw_ok ⟨b, x, s⟩ real.length q1 (by show x ≤ _; omega)
      simp only at f3
      obtain ⟨t, u2, t1, t2, t3, t4, t5⟩ := deal_ok u1 f ((real.length : Int) - 1) f2 (by omega) (by omega) (by omega) (by omega)
      have hcut : cut real f (t + 1) = some ((real.drop f.toNat).take ((t + 1).toNat - f.toNat)) := if_pos ⟨by omega, by omega, by omega⟩
      have hcl : ((real.drop f.toNat).take ((t + 1).toNat - f.toNat)).length = (t + 1).toNat - f.toNat := by
        rw [List.length_take, List.length_drop]; omega
      have hsum : forR' 0 (↑((real.drop f.toNat).take ((t + 1).toNat - f.toNat)).length : Int) (fun k289 x288 =>
          (idx ((real.drop f.toNat).take ((t + 1).toNat - f.toNat)) (↑k289 : Int)).bind fun x317 =>
          some (w64 (x288 + x317))) 0 = some (pre real (t + 1).toNat - pre real f.toNat) := by
        rw [forR'_list (by omega)]
        obtain ⟨z, z1, z2⟩ := forN'_inv (S := Int) (body := fun k289 x288 =>
          (idx ((real.drop f.toNat).take ((t + 1).toNat - f.toNat)) (↑k289 : Int)).bind fun x317 =>
          some (w64 (x288 + x317))) (fun k z => z = pre ((real.drop f.toNat).take ((t + 1).toNat - f.toNat)) k) ((real.drop f.toNat).take ((t + 1).toNat - f.toNat)).length 0 0 (by rw [pre_zero])
          (by
            intro k z _ hk hz
            subst hz
            have hk' : k < ((real.drop f.toNat).take ((t + 1).toNat - f.toNat)).length := by omega
            have hin : ∀ r ∈ (real.drop f.toNat).take ((t + 1).toNat - f.toNat), 0 ≤ r ∧ r ≤ 9 := fun r h => hr r (List.mem_of_mem_drop (List.mem_of_mem_take h))
            have := pre_bnd hin k (by omega)
            have := hin _ (List.getElem_mem hk')
            rw [idx_nat, List.getElem?_eq_getElem hk', Option.bind_some]
            refine ⟨_, rfl, ?_⟩
            rw [pre_succ hk', w64_in (by omega) (by omega)])
        rw [z1, z2, Nat.zero_add]
        unfold pre
        rw [List.take_length, pre_cut (by omega)]
        rfl
      have w1 : w64 ((real.length : Int) - 1) = (real.length : Int) - 1 := w64_in (by omega) (by omega)
      have w2 : w64 (t + 1) = t + 1 := w64_in (by omega) (by omega)
      have w3 : w64 (p2 + 1) = p2 + 1 := w64_in (by omega) (by omega)
      obtain ⟨v, u3, v1, v2, v3, v4, v5⟩ := draw_ok u2 (p2 + 1) t2 (by omega)
      obtain ⟨v', u4, v1', v2', v3', v4', v5'⟩ := draw_ok u3 (p2 + 1) v2 (by omega)
      have y0 := pre_mono hr (a := f.toNat) (t + 1).toNat (by omega) (by omega)
      have y1 := pre_bnd hr (t + 1).toNat (by omega)
      have y2 := pre_bnd hr f.toNat (by omega)
      refine ⟨(u4.bytes, u4.next, u4.state, l ++ [⟨f, t, ⟨max 0 (pre real (t + 1).toNat - pre real f.toNat - v), min 72 (pre real (t + 1).toNat - pre real f.toNat + v')⟩⟩]), ?_, v2', by show u4.next ≤ _; omega, by simp [q3], fun z hz => ?_⟩
      · simp only
        rw [f1, Option.bind_some]
        simp only
        rw [w1, t1, Option.bind_some]
        simp only
        rw [w2, hcut, Option.bind_some, hsum, Option.bind_some, w3, v1, Option.bind_some]
        simp only
        rw [v1', Option.bind_some]
        simp only
        rw [w64_in (x := pre real (t + 1).toNat - pre real f.toNat - v) (by omega) (by omega), w64_in (x := pre real (t + 1).toNat - pre real f.toNat + v') (by omega) (by omega)]
        unfold m_klisterlaw03_span
        rw [Option.bind_some, app_ok (by simp only [List.length_cons, List.length_nil]; omega)]
        rfl
      · rcases List.mem_append.1 hz with hz | hz
        · exact q4 z hz
        · have := List.mem_singleton.1 hz
          subst this
          refine ⟨⟨?_, ?_, ?_, ?_, ?_, ?_⟩, ?_, ?_⟩ <;> simp only <;> omega)
  rw [g1, Option.bind_some]
  obtain ⟨q1, q2, q3, q4⟩ := g2
  simp only at q1 q2 q3 q4
  refine ⟨real, l, ⟨B4, x4, s4⟩, rfl, q1, by show x4 ≤ _; omega, by omega, by omega, fun r h => by have := b3 r h; omega, by omega, fun t ht => (q4 t ht).1, fun t ht => (q4 t ht).2, fun b hb => ?_, fun b k h => by simp at h⟩
  rw [pre_succ hb]
  have := hr _ (List.getElem_mem hb)
  omega
end Go.Proofs.Ytaoaelhmiggepaa
