/- The plain law of RelayChanced. -/
import Derived.Test.YtfdnbaahdjlapaaGreatPChance
import Derived.Test.YtfdnbaahdjlapaaGreatPDeck
namespace Go.Proofs.YtfdnbaahdjlapaaGreat
open Go.KL

theorem gd_map {α : Type} [Inhabited α] (f : Nat → α) {n k : Nat} (h : k < n) : gd ((List.range n).map f) k = f k := by
  unfold gd
  rw [List.getD_eq_getElem?_getD, List.getElem?_map, List.getElem?_range h]
  rfl
theorem gd_mem {α : Type} [Inhabited α] {l : List α} {k : Nat} (h : k < l.length) : gd l k ∈ l := by
  unfold gd
  rw [List.getD_eq_getElem?_getD, List.getElem?_eq_getElem h]
  exact List.getElem_mem h
theorem gd_app {α : Type} [Inhabited α] {l m : List α} {k : Nat} (h : k < l.length) : gd (l ++ m) k = gd l k := by
  unfold gd
  rw [List.getD_eq_getElem?_getD, List.getD_eq_getElem?_getD, List.getElem?_append_left h]
theorem gd_last {α : Type} [Inhabited α] (l : List α) (x : α) : gd (l ++ [x]) l.length = x := by
  unfold gd
  rw [List.getD_eq_getElem?_getD, List.getElem?_append_right (Nat.le_refl _), Nat.sub_self]
  rfl
/-- The place of one among ends. -/
theorem place_is {e : List Int} {i : Nat} (hn : e.length ≤ 1000) (hi : i < e.length) : m_klisterlaw08_RelayChanced_1 (i : Int) e = some (1 + (cn (fun j => decide (gd e j < gd e i)) e.length : Int)) := by
  unfold m_klisterlaw08_RelayChanced_1
  rw [forR'_list (by omega)]
  obtain ⟨y, y1, y2⟩ := forN'_inv (S := Int) (body := fun k7 x6 =>
    (idx e (↑k7 : Int)).bind fun x30 =>
    (idx e (i : Int)).bind fun x38 =>
    if x30 < x38 then
      some (w64 (x6 + 1))
    else
      some x6) (fun k s => s = 1 + (cn (fun j => decide (gd e j < gd e i)) k : Int)) e.length 0 1 rfl
    (by
      rintro k s _ hk rfl
      refine ⟨_, ?_, rfl⟩
      have := cn_le (fun j => decide (gd e j < gd e i)) k
      rw [idx_gd (by omega), Option.bind_some, idx_gd hi, Option.bind_some]
      by_cases h : gd e k < gd e i
      · rw [if_pos h, w64_in (by omega) (by omega)]
        have e : cn (fun j => decide (gd e j < gd e i)) (k + 1) = cn (fun j => decide (gd e j < gd e i)) k + 1 := by simp [cn, h]
        rw [e]
        exact congrArg some (by omega)
      · rw [if_neg h]
        simp [cn, h])
  rw [y1, y2, Nat.zero_add, Option.bind_some]
theorem all_iff {l : List T_api_Span} (h : ∀ s ∈ l, s.Lo ≤ s.Hi) : l.all (fun s => decide (s.Lo ≤ s.Hi)) = true := List.all_eq_true.2 fun s hs => decide_eq_true (h s hs)
theorem law_Chanced (a b : List Int) : m_klisterlaw08_RelayChanced a b = some true := by
  unfold m_klisterlaw08_RelayChanced m_klisterkit_Of
  rw [Option.bind_some, Option.bind_some]
  obtain ⟨n, d1, e1, n0, n1, x0, x1⟩ := draw_ok ⟨a, 0, 17⟩ 13 (Int.le_refl 0) (by show (0 : Int) ≤ 1000000; omega)
  rw [e1, Option.bind_some]
  simp only at n1 ⊢
  obtain ⟨N, rfl⟩ : ∃ N : Nat, n = N := ⟨n.toNat, by omega⟩
  have hN : N ≤ 12 := by omega
  rw [forR'_list (by omega)]
  obtain ⟨⟨B, x, s, L⟩, g1, g2⟩ := forN'_inv (S := List Int × Int × Int × List T_api_Span) (body := fun k85 (l76, x79, x80, l81) =>
    (m_klisterkit_Deck_Draw (⟨l76, x79, x80⟩ : T_klisterkit_Deck) 60).bind fun (x113, x114) =>
    (m_klisterkit_Deck_Draw x114 25).bind fun (x127, x128) =>
    (app 16 l81 [(⟨x113, w64 (x113 + x127)⟩ : T_api_Span)]).bind fun x146 =>
    some (x128.bytes, x128.next, x128.state, x146)) (fun k t => 0 ≤ t.2.1 ∧ t.2.1 ≤ 1 + 2 * (k : Int) ∧ t.2.2.2.length = k ∧ ∀ s ∈ t.2.2.2, s.Lo ≤ s.Hi ∧ -1000 ≤ s.Lo ∧ s.Hi ≤ 1000) N 0 (d1.bytes, d1.next, d1.state, []) ⟨n0, by show d1.next ≤ _; omega, rfl, fun s hs => by simp at hs⟩
    (by
      rintro k ⟨B, x, s, l⟩ _ hk ⟨c1, c2, c3, c4⟩
      simp only at c1 c2 c3 c4
      obtain ⟨y, u1, f1, f2, f3, f4, f5⟩ := draw_ok ⟨B, x, s⟩ 60 c1 (by show x ≤ _; omega)
      simp only at f3
      obtain ⟨z, u2, t1, t2, t3, t4, t5⟩ := draw_ok u1 25 f2 (by omega)
      refine ⟨(u2.bytes, u2.next, u2.state, l ++ [⟨y, y + z⟩]), ?_, t2, by show u2.next ≤ _; omega, by simp [c3], fun q hq => ?_⟩
      · simp only
        rw [f1, Option.bind_some]
        simp only
        rw [t1, Option.bind_some, w64_in (by omega) (by omega)]
        simp only
        rw [app_ok (by simp only [List.length_cons, List.length_nil]; omega)]
        rfl
      · rcases List.mem_append.1 hq with hq | hq
        · exact c4 q hq
        · have := List.mem_singleton.1 hq
          subst this
          simp only
          omega)
  rw [g1, Option.bind_some]
  rw [Nat.zero_add] at g2
  obtain ⟨_, _, g3, g4⟩ := g2
  simp only at g3 g4 ⊢
  have hL : L.length ≤ 12 := by omega
  rw [prog_chances (by omega), Option.bind_some]
  have hch : chances L = (plcs L, 0) := by
    unfold chances
    rw [if_neg (by omega), if_pos (all_iff fun s hs => (g4 s hs).1)]
  have hlen : (plcs L).length = L.length := by simp [plcs]
  rw [hch]
  simp only [if_true, hlen]
  rw [forR'_list (by omega)]
  obtain ⟨⟨B2, x2, s2, T⟩, h1, h2⟩ := forN'_inv (S := List Int × Int × Int × List Int) (body := fun k247 (l238, x241, x242, l243) =>
        (idx L (↑k247 : Int)).bind fun x282 =>
        (m_klisterkit_Deck_Between (⟨l238, x241, x242⟩ : T_klisterkit_Deck) x282.Lo x282.Hi).bind fun (x298, x299) =>
        (app 8 l243 [x298]).bind fun x318 =>
        some (x299.bytes, x299.next, x299.state, x318)) (fun k t => 0 ≤ t.2.1 ∧ t.2.1 ≤ (k : Int) ∧ t.2.2.2.length = k ∧ ∀ j, j < k → (gd L j).Lo ≤ gd t.2.2.2 j ∧ gd t.2.2.2 j ≤ (gd L j).Hi) L.length 0 (b, 0, 17, []) ⟨Int.le_refl 0, Int.le_refl 0, rfl, fun j hj => by omega⟩
    (by
      rintro k ⟨B, x, s, l⟩ _ hk ⟨c1, c2, c3, c4⟩
      simp only at c1 c2 c3 c4
      have hm := g4 _ (gd_mem (show k < L.length by omega))
      obtain ⟨y, u1, f1, f2, f3, f4, f5⟩ := deal_ok ⟨B, x, s⟩ (gd L k).Lo (gd L k).Hi c1 (by show x ≤ _; omega) (by omega) (by omega) (by omega)
      simp only at f3
      refine ⟨(u1.bytes, u1.next, u1.state, l ++ [y]), ?_, f2, by show u1.next ≤ _; omega, by simp [c3], fun j hj => ?_⟩
      · simp only
        rw [idx_gd (by omega), Option.bind_some, f1, Option.bind_some]
        simp only
        rw [app_ok (by simp only [List.length_cons, List.length_nil]; omega)]
        rfl
      · simp only
        by_cases e : j = k
        · subst e
          rw [← c3, gd_last, c3]
          exact ⟨f4, f5⟩
        · rw [gd_app (by omega)]
          exact c4 j (by omega))
  rw [h1, Option.bind_some]
  rw [Nat.zero_add] at h2
  obtain ⟨_, _, h3, h4⟩ := h2
  simp only at h3 h4 ⊢
  rw [forR_list (by omega)]
  rcases forN_inv (S := Unit) (B := Bool) (body := fun k370 _ =>
        (forR' 0 (↑L.length : Int) (fun k424 (l416, l420) =>
          (idx L (↑k424 : Int)).bind fun x458 =>
          ((app 8 l416 [x458.Hi]).bind fun x491 =>
          (app 8 l420 [x458.Lo]).bind fun x504 =>
          some (x491, x504)).bind fun (l477, l480) =>
          if (↑k424 : Int) = (↑k370 : Int) then
            (chk (↑k424 : Int) l477.length).bind fun _ =>
            (chk (↑k424 : Int) l480.length).bind fun _ =>
            some ((List.set l477 k424 x458.Lo), (List.set l480 k424 x458.Hi))
          else
            some (l477, l480)) ([], [])).bind fun (y429, y430) =>
        (chk (↑k370 : Int) L.length).bind fun _ =>
        (m_klisterlaw08_RelayChanced_1 (↑k370 : Int) y429).bind fun x780 =>
        if x780 = ((gd (plcs L) k370).Lo) then
          (m_klisterlaw08_RelayChanced_1 (↑k370 : Int) y430).bind fun x798 =>
          if x798 = ((gd (plcs L) k370).Hi) then
            (m_klisterlaw08_RelayChanced_1 (↑k370 : Int) T).bind fun x817 =>
            (m_klisterlaw08_within x817 (gd (plcs L) k370)).bind fun x827 =>
            if x827 = true then
              some (.inl ())
            else
              esc (some false)
          else
            esc (some false)
        else
          esc (some false)) (fun _ _ => True) (fun _ => False) L.length 0 () trivial
    (by
      intro i _ _ hi _
      have hi' : i < L.length := by omega
      refine .inl ⟨(), ?_, trivial⟩
      rw [forR'_list (by omega)]
      let ea : Nat → Int := fun j => if j = i then (gd L j).Lo else (gd L j).Hi
      let la : Nat → Int := fun j => if j = i then (gd L j).Hi else (gd L j).Lo
      obtain ⟨⟨E, A⟩, q1, q2⟩ := forN'_inv (S := List Int × List Int) (body := fun k424 (l416, l420) =>
          (idx L (↑k424 : Int)).bind fun x458 =>
          ((app 8 l416 [x458.Hi]).bind fun x491 =>
          (app 8 l420 [x458.Lo]).bind fun x504 =>
          some (x491, x504)).bind fun (l477, l480) =>
          if (↑k424 : Int) = (↑i : Int) then
            (chk (↑k424 : Int) l477.length).bind fun _ =>
            (chk (↑k424 : Int) l480.length).bind fun _ =>
            some ((List.set l477 k424 x458.Lo), (List.set l480 k424 x458.Hi))
          else
            some (l477, l480)) (fun k t => t = ((List.range k).map ea, (List.range k).map la)) L.length 0 ([], []) rfl
        (by
          rintro k t _ hk rfl
          refine ⟨_, ?_, rfl⟩
          have r1 : ∀ f : Nat → Int, (List.range (k + 1)).map f = (List.range k).map f ++ [f k] := fun f => by rw [List.range_succ, List.map_append]; rfl
          have rl : ∀ f : Nat → Int, ((List.range k).map f).length = k := fun f => by simp
          simp only
          rw [idx_gd (by omega), Option.bind_some, app_ok (by simp only [rl, List.length_cons, List.length_nil]; omega), Option.bind_some, app_ok (by simp only [rl, List.length_cons, List.length_nil]; omega), Option.bind_some, Option.bind_some]
          simp only
          by_cases hki : k = i
          · rw [if_pos (by omega), chk_ok (by omega) (by simp; try omega), Option.bind_some, chk_ok (by omega) (by simp; try omega), Option.bind_some, r1, r1]
            have st : ∀ (f : Nat → Int) (u v : Int), List.set ((List.range k).map f ++ [u]) k v = (List.range k).map f ++ [v] := fun f u v => by
              rw [List.set_append_right _ _ (by rw [rl]; exact Nat.le_refl _), rl, Nat.sub_self]
              rfl
            rw [st, st]
            show some ((List.range k).map ea ++ [(gd L k).Lo], (List.range k).map la ++ [(gd L k).Hi]) = _
            simp only [ea, la, hki, if_true]
          · rw [if_neg (by omega), r1, r1]
            simp only [ea, la, hki, if_false])
      rw [q1, Option.bind_some, q2, Nat.zero_add]
      simp only
      have el : ∀ f : Nat → Int, ((List.range L.length).map f).length = L.length := fun f => by simp
      have hp : gd (plcs L) i = plc L i := gd_map (plc L) hi'
      rw [chk_ok (by omega) (by omega), Option.bind_some, place_is (by rw [el]; omega) (by rw [el]; omega), Option.bind_some, place_is (by rw [el]; omega) (by rw [el]; omega), place_is (by omega) (by omega), hp, el, el, h3]
      have c1 : cn (fun j => decide (gd ((List.range L.length).map ea) j < gd ((List.range L.length).map ea) i)) L.length = cn (pLo L i) L.length := cn_congr _ fun j hj => by
        rw [gd_map ea hj, gd_map ea hi']
        unfold pLo
        by_cases e : j = i
        · subst e; simp
        · simp [ea, e]
      have c2 : cn (fun j => decide (gd ((List.range L.length).map la) j < gd ((List.range L.length).map la) i)) L.length = cn (pHi L i) L.length := cn_congr _ fun j hj => by
        rw [gd_map la hj, gd_map la hi']
        unfold pHi
        by_cases e : j = i
        · subst e; simp
        · simp [la, e]
      have c3 : cn (pLo L i) L.length ≤ cn (fun j => decide (gd T j < gd T i)) L.length := cn_mono _ fun j hj hq => by
        unfold pLo at hq
        simp only [Bool.and_eq_true, decide_eq_true_eq] at hq
        have := h4 j hj
        have := h4 i hi'
        exact decide_eq_true (by omega)
      have c4 : cn (fun j => decide (gd T j < gd T i)) L.length ≤ cn (pHi L i) L.length := cn_mono _ fun j hj hq => by
        have hq := of_decide_eq_true hq
        have := h4 j hj
        have := h4 i hi'
        unfold pHi
        rw [Bool.and_eq_true]
        exact ⟨decide_eq_true (fun e => by subst e; omega), decide_eq_true (by omega)⟩
      rw [c1, c2]
      unfold plc m_klisterlaw08_within
      simp only [if_true, Option.bind_some]
      rw [if_pos (by omega), Option.bind_some, if_pos (decide_eq_true (by omega))]) with ⟨_, k1, _⟩ | ⟨_, _, k2⟩
  · rw [k1, jn_some_inl]
    rfl
  · exact k2.elim
end Go.Proofs.YtfdnbaahdjlapaaGreat
