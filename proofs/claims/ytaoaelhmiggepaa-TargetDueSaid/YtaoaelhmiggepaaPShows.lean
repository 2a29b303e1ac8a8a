/- What a round shows, by the program and by the reference. -/
import Derived.Test.YtaoaelhmiggepaaPLinks
import Derived.Test.YtaoaelhmiggepaaPSheetR
import Derived.Test.YtaoaelhmiggepaaPWideA
namespace Go.Proofs.Ytaoaelhmiggepaa
open Go.KL

/-- The error of owed loops and sheets. -/
def dueErr (o : List Int) (l : List T_target_Sheet) : Int := if o.length < 1 ∨ 8 < o.length then 2 else if o.all (fun k => decide (0 ≤ k ∧ k ≤ 5)) = true then shErr o.length l else 3
theorem due_eq {o : List Int} (l : List T_target_Sheet) (hl : o.length ≤ 1000) : m_target_due o l = some (dueErr o l) := by
  unfold m_target_due dueErr
  rw [within_is, Option.bind_some]
  by_cases h : o.length < 1 ∨ 8 < o.length
  · rw [if_pos h, if_neg (by simp only [decide_eq_true_eq]; omega)]
  · rw [if_neg h, if_pos (decide_eq_true (by omega)), allInt_eq (p := fun k => decide (0 ≤ k ∧ k ≤ 5)) (fun a => by unfold m_target_due_1; rw [within_is]; rfl) (by omega), Option.bind_some]
    by_cases h2 : o.all (fun k => decide (0 ≤ k ∧ k ≤ 5)) = true
    · rw [if_pos h2, if_pos h2, check_eq]
      rfl
    · rw [if_neg h2, if_neg h2]
theorem owed_eq {o : List Int} (l : List T_target_Sheet) (hl : o.length ≤ 1000) : m_klisterref03_Owed o (l.map refSheet) = some (dueErr o l) := by
  unfold m_klisterref03_Owed dueErr
  by_cases h1 : (o.length : Int) < 1
  · rw [if_pos h1, if_pos (.inl (by omega))]
  rw [if_neg h1]
  by_cases h2 : 8 < (o.length : Int)
  · rw [if_pos h2, if_pos (.inr (by omega))]
  rw [if_neg h2, if_neg (by omega)]
  have e1 := loop_all (R := Int) (l := o) (g := fun x27 => (m_klisterref03_outside x27 0 5).bind fun x35 => if x35 = true then esc (some 3) else some (.inl ())) (p := fun k => decide (0 ≤ k ∧ k ≤ 5)) (z := 3)
    (K := fun _ => (m_klisterref03_CheckSheets (↑o.length : Int) (l.map refSheet)).bind fun x63 => some x63)
    (by
      intro a _
      rw [outside_is, Option.bind_some]
      by_cases g : 0 ≤ a ∧ a ≤ 5
      · rw [if_neg (by simp only [decide_eq_true_eq]; omega), if_pos (decide_eq_true g)]
      · rw [if_pos (by simp only [decide_eq_true_eq]; omega), if_neg (by simpa using g)]
        rfl) (by omega)
  rw [e1, refCheck_eq]
  split <;> rfl
theorem dueErr_ok {o : List Int} {l : List T_target_Sheet} (h : dueErr o l = 0) : 1 ≤ o.length ∧ o.length ≤ 8 ∧ (∀ k ∈ o, 0 ≤ k ∧ k ≤ 5) ∧ shErr o.length l = 0 := by
  unfold dueErr at h
  split at h
  · cases h
  · split at h
    · rename_i h1 h2
      exact ⟨by omega, by omega, fun k hk => of_decide_eq_true (List.all_eq_true.1 h2 k hk), h⟩
    · cases h

def refStep (s : T_target_Step) : T_klisterref03_Step := ⟨s.Kind, s.Index⟩
theorem stepped_eq {r : List T_target_Step} (hr : r.length ≤ 1000) : m_klisterlaw03_stepped r = some (r.map refStep) := by
  unfold m_klisterlaw03_stepped
  rw [loop_map (f := refStep) (bytes := 16) (g := fun x41 l14 => (app 16 l14 [(⟨x41.Kind, x41.Index⟩ : T_klisterref03_Step)]).bind fun x61 => some x61) (fun a _ r => by simp [refStep]) (by omega) (by omega)]
  rfl

open Classical in
/-- What a round shows. -/
noncomputable def rs (n : Nat) (l : List T_target_Sheet) (o : List Int) (r : List T_target_Step) : Int × Int :=
  if r.length < 1 ∨ 40 < r.length then (0, 2) else
  if ∀ s ∈ r, stp n l o s ≠ none then (if Closed (r.map (lk n l o)) ∧ wsum (r.map (lk n l o)) < 0 then (wsum (r.map (lk n l o)), 0) else (0, 8)) else (0, 1)

theorem wsum_take {w : List T_target_link} {i : Nat} (h : i < w.length) : wsum (w.take (i + 1)) = wsum (w.take i) + wt w[i] := by
  unfold wsum
  rw [List.take_add_one, List.getElem?_eq_getElem h, List.map_append, List.sum_append]
  simp
theorem wsum_bnd {w : List T_target_link} (h : ∀ k ∈ w, -100 ≤ wt k ∧ wt k ≤ 100) : ∀ i, i ≤ w.length → -(100 * (i : Int)) ≤ wsum (w.take i) ∧ wsum (w.take i) ≤ 100 * (i : Int)
  | 0, _ => by simp [wsum]
  | i + 1, hi => by
    have := wsum_bnd h i (by omega)
    have := h _ (List.getElem_mem (show i < w.length by omega))
    rw [wsum_take (by omega)]
    omega
theorem wt_known {n : Nat} {ks : List T_target_link} (hk : ∀ k ∈ ks, lkOk n k) {k : T_target_link} (h : k ∈ ks) : k.count () = some (wt k) ∧ -100 ≤ wt k ∧ wt k ≤ 100 := by
  obtain ⟨_, _, _, _, w, e, w0, w1⟩ := hk k h
  have : wt k = w := by unfold wt; rw [e]; rfl
  rw [this]
  exact ⟨e, w0, w1⟩
theorem take_succ' {α : Type} {l : List α} {i : Nat} (h : i < l.length) : l.take (i + 1) = l.take i ++ [l[i]] := by
  rw [List.take_add_one, List.getElem?_eq_getElem h]
  rfl
/-- Whether a link of a way is followed by the next one. -/
def cl (way : List T_target_link) (i : Nat) : Prop := ∀ a c, way[i]? = some a → way[(i + 1) % way.length]? = some c → a.to_ = c.from_

section
variable {n : Nat} {l : List T_target_Sheet} {o : List Int}
theorem prog_shows (hn : o.length = n) (hd : dueErr o l = 0) {r : List T_target_Step} (hr : r.length ≤ 1000) : m_target_RoundShows o l r = some (rs n l o r) := by
  obtain ⟨h1, h2, ho, hz⟩ := dueErr_ok hd
  obtain ⟨_, _, h3, h4'⟩ := shErr_ok hz
  have h4 : ∀ s ∈ l, okSheet n s := fun s hs => by have := h4' s hs; rwa [Int.toNat_natCast, hn] at this
  unfold m_target_RoundShows
  rw [due_eq l (by omega), Option.bind_some, if_pos hd, within_is, Option.bind_some]
  by_cases hc : r.length < 1 ∨ 40 < r.length
  · rw [if_neg (by simp only [decide_eq_true_eq]; omega), rs, if_pos hc]
  rw [if_pos (decide_eq_true (by omega)), hn, links_known (by omega) h3 h4 (by omega) ho, Option.bind_some, forR_list (by omega)]
  obtain ⟨ks, e1, e2, e3, _⟩ := links_eq (n := n) (by omega) h3 h4 (show o.length ≤ n by omega) ho
  rw [links_known (by omega) h3 h4 (by omega) ho] at e1
  cases e1
  rw [rs, if_neg hc]
  rcases forN_inv (S := List T_target_link) (B := Int × Int) (body := fun k71 l66 =>
        (idx r (↑k71 : Int)).bind fun x95 =>
        (m_slices_IndexFunc_target_link_target_link (known n l o) (fun x => m_target_RoundShows_1 x x95)).bind fun x122 =>
        if x122 < 0 then
          esc (some (0, 1))
        else
          (idx (known n l o) x122).bind fun x138 =>
          (app 40 l66 [x138]).bind fun x156 =>
          some (.inl x156)) (fun i w => w = (r.take i).map (lk n l o) ∧ ∀ s ∈ r.take i, stp n l o s ≠ none) (fun b => b = (0, 1) ∧ ∃ s ∈ r, stp n l o s = none) r.length 0 [] ⟨rfl, fun s h => by simp at h⟩
    (by
      rintro i w _ hi ⟨rfl, q⟩
      have hlt : i < r.length := by omega
      rw [idx_nat, List.getElem?_eq_getElem hlt, Option.bind_some]
      rcases find_lk (n := n) (l := l) (o := o) (by omega) h3 (by omega) r[i] with ⟨a1, a2⟩ | ⟨a1, j, a2, a3⟩
      · rw [a2, Option.bind_some, if_pos (by decide)]
        exact .inr ⟨_, rfl, rfl, _, List.getElem_mem hlt, a1⟩
      · rw [a2, Option.bind_some, if_neg (by omega), idx_nat, a3, Option.bind_some, app_ok (by simp only [List.length_map, List.length_take, List.length_cons, List.length_nil]; omega), Option.bind_some]
        refine .inl ⟨_, rfl, by rw [take_succ' hlt, List.map_append]; rfl, fun s hs => ?_⟩
        rw [take_succ' hlt] at hs
        rcases List.mem_append.1 hs with hs | hs
        · exact q s hs
        · have := List.mem_singleton.1 hs
          subst this
          exact a1) with ⟨w, g1, rfl, g2⟩ | ⟨b, g1, rfl, s, g2, g3⟩
  · rw [Nat.zero_add, List.take_length] at g2
    rw [g1, jn_some_inl, if_pos g2, Nat.zero_add, List.take_length]
    have hlen : (r.map (lk n l o)).length = r.length := by simp
    have hmem : ∀ k ∈ r.map (lk n l o), k ∈ known n l o := fun k hk => by
      obtain ⟨s, hs, rfl⟩ := List.mem_map.1 hk
      exact (known_stp (g2 s hs)).1
    have hwt := fun k hk => wt_known e2 (hmem k hk)
    generalize hway : r.map (lk n l o) = way at *
    rw [hlen, forR_list (by omega)]
    rcases forN_inv (S := Int) (B := Int × Int) (body := fun k202 x201 =>
        (idx way (↑k202 : Int)).bind fun x223 =>
        (rem (↑(k202 + 1) : Int) (↑r.length : Int)).bind fun x248 =>
        (idx way x248).bind fun x251 =>
        if x223.to_ = x251.from_ then
          (x223.count ()).bind fun x264 =>
          some (.inl (w64 (x201 + x264)))
        else
          esc (some (0, 8))) (fun i x => x = wsum (way.take i) ∧ ∀ j, j < i → cl way j) (fun b => b = (0, 8) ∧ ¬ Closed way) r.length 0 0 ⟨rfl, fun j h => by omega⟩
      (by
        rintro i x _ hi ⟨rfl, q⟩
        have hlt : i < way.length := by omega
        have hb := wsum_bnd (fun k hk => (hwt k hk).2) i (by omega)
        obtain ⟨c1, c2⟩ := hwt _ (List.getElem_mem hlt)
        have er : rem (↑(i + 1) : Int) (↑r.length : Int) = some (((i + 1) % r.length : Nat) : Int) := by
          unfold rem
          rw [if_neg (by omega)]
          rfl
        have hm : (i + 1) % r.length < way.length := by rw [hlen]; exact Nat.mod_lt _ (by omega)
        rw [idx_nat, List.getElem?_eq_getElem hlt, Option.bind_some, er, Option.bind_some, idx_nat, List.getElem?_eq_getElem hm, Option.bind_some]
        by_cases hc' : way[i].to_ = way[(i + 1) % r.length].from_
        · rw [if_pos hc', c1, Option.bind_some]
          refine .inl ⟨_, rfl, by rw [wsum_take hlt, w64_in (by omega) (by omega)], fun j hj => ?_⟩
          by_cases e : j = i
          · subst e
            intro a c ha hc2
            rw [List.getElem?_eq_getElem hlt] at ha
            rw [hlen, List.getElem?_eq_getElem hm] at hc2
            cases ha
            cases hc2
            exact hc'
          · exact q j (by omega)
        · rw [if_neg hc']
          refine .inr ⟨_, rfl, rfl, fun hC => hc' ?_⟩
          exact hC i _ _ (List.getElem?_eq_getElem hlt) (by rw [hlen]; exact List.getElem?_eq_getElem hm)) with ⟨x, g3, rfl, g4⟩ | ⟨b, g3, rfl, g4⟩
    · have hC : Closed way := by
        intro i a c ha hc2
        have := (List.getElem?_eq_some_iff.1 ha).1
        exact g4 i (by omega) a c ha hc2
      have et : way.take (0 + r.length) = way := by rw [Nat.zero_add, ← hlen, List.take_length]
      rw [g3, jn_some_inl, et]
      by_cases hs : wsum way < 0
      · rw [if_neg (by omega), if_pos ⟨hC, hs⟩]
      · rw [if_pos (by omega), if_neg (fun h => hs h.2)]
    · rw [g3, jn_some_inr, if_neg (fun h => g4 h.1)]
  · rw [g1, jn_some_inr, if_neg (fun h => h s g2 g3)]

theorem prog_shows_bad (hd : dueErr o l ≠ 0) (hl : o.length ≤ 1000) (r : List T_target_Step) : m_target_RoundShows o l r = some (0, dueErr o l) := by
  unfold m_target_RoundShows
  rw [due_eq l hl, Option.bind_some, if_neg hd]
theorem ref_shows_bad (hd : dueErr o l ≠ 0) (hl : o.length ≤ 1000) (r : List T_klisterref03_Step) : m_klisterref03_RoundShows o (l.map refSheet) r = some (0, dueErr o l) := by
  unfold m_klisterref03_RoundShows
  rw [owed_eq l hl, Option.bind_some, if_neg hd]

theorem refbad (hn : o.length = n) (s : T_target_Step) : ((m_klisterref03_outside s.Kind 0 4).bind fun x110 =>
          if x110 = true then
            some true
          else
            if s.Index < 0 then
              some true
            else
              if s.Kind < 2 then
                if (↑(l.map refSheet).length : Int) ≤ s.Index then
                  some true
                else
                  if 1 < s.Kind then
                    some (decide ((↑o.length : Int) ≤ s.Index))
                  else
                    some false
              else
                if 1 < s.Kind then
                  some (decide ((↑o.length : Int) ≤ s.Index))
                else
                  some false) = some (decide (stp n l o s = none)) := by
  rw [outside_is, Option.bind_some, List.length_map]
  unfold stp
  by_cases h0 : s.Kind < 0 ∨ 4 < s.Kind
  · rw [if_pos (decide_eq_true h0)]
    by_cases h1 : s.Index < 0
    · rw [if_pos h1]; rfl
    · rw [if_neg h1, if_neg (by omega), if_neg (by omega), if_neg (by omega), if_neg (by omega), if_neg (by omega)]; rfl
  rw [if_neg (by simpa using h0)]
  by_cases h1 : s.Index < 0
  · rw [if_pos h1, if_pos h1]; rfl
  rw [if_neg h1, if_neg h1]
  by_cases h2 : s.Kind < 2
  · rw [if_pos h2]
    by_cases h3 : (l.length : Int) ≤ s.Index
    · rw [if_pos h3]
      by_cases h4 : s.Kind = 0
      · rw [if_pos h4, if_neg (by omega)]; rfl
      · rw [if_neg h4, if_pos (by omega), if_neg (by omega)]; rfl
    · rw [if_neg h3, if_neg (by omega)]
      by_cases h4 : s.Kind = 0
      · rw [if_pos h4, if_pos (by omega)]; simp
      · rw [if_neg h4, if_pos (by omega), if_pos (by omega)]; simp
  · rw [if_neg h2, if_pos (by omega), if_neg (by omega), if_neg (by omega), hn]
    by_cases h3 : (n : Int) ≤ s.Index
    · rw [decide_eq_true h3]
      by_cases h4 : s.Kind = 2
      · rw [if_pos h4, if_neg (by omega)]; rfl
      · by_cases h5 : s.Kind = 3
        · rw [if_neg h4, if_pos h5, if_neg (by omega)]; rfl
        · rw [if_neg h4, if_neg h5, if_pos (by omega), if_neg (by omega)]; rfl
    · rw [decide_eq_false h3]
      by_cases h4 : s.Kind = 2
      · rw [if_pos h4, if_pos (by omega)]; simp
      · by_cases h5 : s.Kind = 3
        · rw [if_neg h4, if_pos h5, if_pos (by omega)]; simp
        · rw [if_neg h4, if_neg h5, if_pos (by omega), if_pos (by omega)]; simp

/-- What the reference adds for a step. -/
theorem refadd (hn : o.length = n) (hn8 : n ≤ 8) (hl : l.length ≤ 20) (hs : ∀ s ∈ l, okSheet n s) (ho : ∀ k ∈ o, 0 ≤ k ∧ k ≤ 5) {s : T_target_Step} (h : stp n l o s ≠ none) {F T : List Int} {x : Int} (hF : F.length ≤ 1000) (hT : T.length ≤ 1000) (hx : -1000000 ≤ x ∧ x ≤ 1000000) {β : Type} :
    (if s.Kind = 0 then
              ((idx (l.map refSheet) s.Index).bind fun x180 =>
              (app 8 F [x180.From]).bind fun x199 =>
              (app 8 T [w64 (x180.To + 1)]).bind fun x212 =>
              some (x199, x212)).bind fun (l171, l174) =>
              (idx (l.map refSheet) s.Index).bind fun x390 =>
              some (.inl (l171, l174, w64 (x + x390.Loops.Hi)))
            else
              if s.Kind = 1 then
                ((idx (l.map refSheet) s.Index).bind fun x420 =>
                (app 8 F [w64 (x420.To + 1)]).bind fun x439 =>
                (app 8 T [x420.From]).bind fun x452 =>
                some (x439, x452)).bind fun (l411, l414) =>
                (idx (l.map refSheet) s.Index).bind fun x630 =>
                some (.inl (l411, l414, w64 (x - x630.Loops.Lo)))
              else
                if s.Kind = 2 then
                  (app 8 F [s.Index]).bind fun x656 =>
                  (app 8 T [w64 (s.Index + 1)]).bind fun x669 =>
                  some (.inl (x656, x669, w64 (x + 9)))
                else
                  (app 8 F [w64 (s.Index + 1)]).bind fun x690 =>
                  (app 8 T [s.Index]).bind fun x703 =>
                  if s.Kind = 4 then
                    (idx o s.Index).bind fun x713 =>
                    some (.inl (x690, x703, w64 (x - x713)))
                  else
                    some (.inl (x690, x703, x))) = (some (.inl (F ++ [(lk n l o s).from_], T ++ [(lk n l o s).to_], x + wt (lk n l o s))) : Option ((List Int × List Int × Int) ⊕ β)) := by
  obtain ⟨a, b⟩ := s
  have aF : ∀ y, app 8 F [y] = some (F ++ [y]) := fun y => app_ok (by simp only [List.length_cons, List.length_nil]; omega)
  have aT : ∀ y, app 8 T [y] = some (T ++ [y]) := fun y => app_ok (by simp only [List.length_cons, List.length_nil]; omega)
  simp only
  unfold lk
  unfold stp at h ⊢
  simp only at h ⊢
  by_cases h0 : b < 0
  · rw [if_pos h0] at h; exact absurd rfl h
  obtain ⟨i, rfl⟩ : ∃ i : Nat, b = i := ⟨b.toNat, by omega⟩
  rw [if_neg h0] at h ⊢
  rw [Int.toNat_natCast] at h ⊢
  have sh : ∀ hi : i < l.length, idx (l.map refSheet) (i : Int) = some (refSheet (gd l i)) ∧ okSheet n (gd l i) := fun hi => by
    have e := gd_at hi
    refine ⟨by rw [idx_nat, List.getElem?_map, e]; rfl, hs _ (List.mem_of_getElem? e)⟩
  by_cases a0 : a = 0
  · rw [if_pos a0] at h ⊢
    rw [if_pos a0]
    by_cases hi : (i : Int) < l.length
    · obtain ⟨e1, s0, s1, s2, s3, s4, s5⟩ := sh (by omega)
      rw [if_pos hi, e1]
      simp only [Option.bind_some, aF, aT]
      show some (Sum.inl (F ++ [(gd l i).From], T ++ [w64 ((gd l i).To + 1)], w64 (x + (gd l i).Loops.Hi))) = some (Sum.inl (F ++ [(gd l i).From], T ++ [(gd l i).To + 1], x + (gd l i).Loops.Hi))
      rw [w64_in (by omega) (by omega), w64_in (by omega) (by omega)]
    · rw [if_neg hi] at h; exact absurd rfl h
  rw [if_neg a0] at h ⊢
  rw [if_neg a0]
  by_cases a1 : a = 1
  · rw [if_pos a1] at h ⊢
    rw [if_pos a1]
    by_cases hi : (i : Int) < l.length
    · obtain ⟨e1, s0, s1, s2, s3, s4, s5⟩ := sh (by omega)
      rw [if_pos hi, e1]
      simp only [Option.bind_some, aF, aT]
      show some (Sum.inl (F ++ [w64 ((gd l i).To + 1)], T ++ [(gd l i).From], w64 (x - (gd l i).Loops.Lo))) = some (Sum.inl (F ++ [(gd l i).To + 1], T ++ [(gd l i).From], x + -(gd l i).Loops.Lo))
      rw [w64_in (by omega) (by omega), w64_in (by omega) (by omega), Int.sub_eq_add_neg]
    · rw [if_neg hi] at h; exact absurd rfl h
  rw [if_neg a1] at h ⊢
  rw [if_neg a1]
  by_cases a2 : a = 2
  · rw [if_pos a2] at h ⊢
    rw [if_pos a2]
    by_cases hi : (i : Int) < n
    · rw [if_pos hi]
      simp only [Option.bind_some, aF, aT]
      show some (Sum.inl (F ++ [(i : Int)], T ++ [w64 ((i : Int) + 1)], w64 (x + 9))) = some (Sum.inl (F ++ [(i : Int)], T ++ [(i : Int) + 1], x + 9))
      rw [w64_in (by omega) (by omega), w64_in (by omega) (by omega)]
    · rw [if_neg hi] at h; exact absurd rfl h
  rw [if_neg a2] at h ⊢
  rw [if_neg a2]
  by_cases a3 : a = 3
  · rw [if_pos a3] at h ⊢
    by_cases hi : (i : Int) < n
    · rw [if_pos hi]
      simp only [Option.bind_some, aF, aT]
      rw [if_neg (by omega)]
      show some (Sum.inl (F ++ [w64 ((i : Int) + 1)], T ++ [(i : Int)], x)) = some (Sum.inl (F ++ [(i : Int) + 1], T ++ [(i : Int)], x + 0))
      rw [w64_in (by omega) (by omega), Int.add_zero]
    · rw [if_neg hi] at h; exact absurd rfl h
  rw [if_neg a3] at h ⊢
  by_cases a4 : a = 4
  · rw [if_pos a4] at h ⊢
    by_cases hi : (i : Int) < o.length
    · have e := gd_at (xs := o) (k := i) (by omega)
      have hk := ho _ (List.mem_of_getElem? e)
      rw [if_pos hi]
      simp only [Option.bind_some, aF, aT]
      rw [if_pos a4, idx_nat, e, Option.bind_some]
      show some (Sum.inl (F ++ [w64 ((i : Int) + 1)], T ++ [(i : Int)], w64 (x - gd o i))) = some (Sum.inl (F ++ [(i : Int) + 1], T ++ [(i : Int)], x + -(gd o i)))
      rw [w64_in (by omega) (by omega), w64_in (by omega) (by omega), Int.sub_eq_add_neg]
    · rw [if_neg hi] at h; exact absurd rfl h
  · rw [if_neg a4] at h; exact absurd rfl h

theorem ref_shows (hn : o.length = n) (hd : dueErr o l = 0) {r : List T_target_Step} (hr : r.length ≤ 1000) : m_klisterref03_RoundShows o (l.map refSheet) (r.map refStep) = some (rs n l o r) := by
  obtain ⟨h1, h2, ho, hz⟩ := dueErr_ok hd
  obtain ⟨_, _, h3, h4'⟩ := shErr_ok hz
  have h4 : ∀ s ∈ l, okSheet n s := fun s hs => by have := h4' s hs; rwa [Int.toNat_natCast, hn] at this
  obtain ⟨ks, e1, e2, e3, _⟩ := links_eq (n := n) (by omega) h3 h4 (show o.length ≤ n by omega) ho
  rw [links_known (by omega) h3 h4 (by omega) ho] at e1
  cases e1
  unfold m_klisterref03_RoundShows
  rw [owed_eq l (by omega), Option.bind_some, if_pos hd, List.length_map]
  by_cases c1 : (r.length : Int) < 1
  · rw [if_pos c1, rs, if_pos (.inl (by omega))]
  rw [if_neg c1]
  by_cases c2 : 40 < (r.length : Int)
  · rw [if_pos c2, rs, if_pos (.inr (by omega))]
  rw [if_neg c2, rs, if_neg (by omega), forR_list (by omega)]
  have hwt0 : ∀ s, stp n l o s ≠ none → -100 ≤ wt (lk n l o s) ∧ wt (lk n l o s) ≤ 100 := fun s hs => (wt_known e2 (known_stp hs).1).2
  have hlen : (r.map (lk n l o)).length = r.length := by simp
  have hbnd : ∀ i, i ≤ r.length → (∀ s ∈ r.take i, stp n l o s ≠ none) → -1000000 ≤ wsum ((r.take i).map (lk n l o)) ∧ wsum ((r.take i).map (lk n l o)) ≤ 1000000 := by
    intro i hi hs
    have := wsum_bnd (w := (r.take i).map (lk n l o)) (fun k hk => by
      obtain ⟨s, h, rfl⟩ := List.mem_map.1 hk
      exact hwt0 s (hs s h)) i (by rw [List.length_map, List.length_take]; omega)
    rw [← List.map_take, List.take_take, Nat.min_self] at this
    omega
  rcases forN_inv (S := List Int × List Int × Int) (B := Int × Int) (body := fun k55 (l46, l50, x54) =>
          jn ((idx (r.map refStep) (↑k55 : Int)).bind fun x93 =>
          ((m_klisterref03_outside x93.Kind 0 4).bind fun x110 =>
          if x110 = true then
            some true
          else
            if x93.Index < 0 then
              some true
            else
              if x93.Kind < 2 then
                if (↑(l.map refSheet).length : Int) ≤ x93.Index then
                  some true
                else
                  if 1 < x93.Kind then
                    some (decide ((↑o.length : Int) ≤ x93.Index))
                  else
                    some false
              else
                if 1 < x93.Kind then
                  some (decide ((↑o.length : Int) ≤ x93.Index))
                else
                  some false).bind fun b106 =>
          if b106 = true then
            esc (esc (some (0, 1)))
          else
            if x93.Kind = 0 then
              ((idx (l.map refSheet) x93.Index).bind fun x180 =>
              (app 8 l46 [x180.From]).bind fun x199 =>
              (app 8 l50 [w64 (x180.To + 1)]).bind fun x212 =>
              some (x199, x212)).bind fun (l171, l174) =>
              (idx (l.map refSheet) x93.Index).bind fun x390 =>
              some (.inl (l171, l174, w64 (x54 + x390.Loops.Hi)))
            else
              if x93.Kind = 1 then
                ((idx (l.map refSheet) x93.Index).bind fun x420 =>
                (app 8 l46 [w64 (x420.To + 1)]).bind fun x439 =>
                (app 8 l50 [x420.From]).bind fun x452 =>
                some (x439, x452)).bind fun (l411, l414) =>
                (idx (l.map refSheet) x93.Index).bind fun x630 =>
                some (.inl (l411, l414, w64 (x54 - x630.Loops.Lo)))
              else
                if x93.Kind = 2 then
                  (app 8 l46 [x93.Index]).bind fun x656 =>
                  (app 8 l50 [w64 (x93.Index + 1)]).bind fun x669 =>
                  some (.inl (x656, x669, w64 (x54 + 9)))
                else
                  (app 8 l46 [w64 (x93.Index + 1)]).bind fun x690 =>
                  (app 8 l50 [x93.Index]).bind fun x703 =>
                  if x93.Kind = 4 then
                    (idx o x93.Index).bind fun x713 =>
                    some (.inl (x690, x703, w64 (x54 - x713)))
                  else
                    some (.inl (x690, x703, x54))) fun (l82, l85, x88) =>
          some (.inl (l82, l85, x88))) (fun i s => s = (((r.take i).map (lk n l o)).map (·.from_), ((r.take i).map (lk n l o)).map (·.to_), wsum ((r.take i).map (lk n l o))) ∧ ∀ s ∈ r.take i, stp n l o s ≠ none) (fun b => b = (0, 1) ∧ ∃ s ∈ r, stp n l o s = none) r.length 0 ([], [], 0) ⟨rfl, fun s h => by simp at h⟩
    (by
      rintro i s _ hi ⟨rfl, q⟩
      have hlt : i < r.length := by omega
      have eg : idx (r.map refStep) (i : Int) = some (refStep r[i]) := by rw [idx_nat, List.getElem?_map, List.getElem?_eq_getElem hlt]; rfl
      obtain ⟨b1, b2⟩ := hbnd i (by omega) q
      simp only
      rw [eg, Option.bind_some]
      have k1 : (refStep r[i]).Kind = r[i].Kind := rfl
      have k2 : (refStep r[i]).Index = r[i].Index := rfl
      rw [k1, k2, refbad hn, Option.bind_some]
      by_cases hst : stp n l o r[i] = none
      · rw [if_pos (decide_eq_true hst)]
        exact .inr ⟨_, rfl, rfl, _, List.getElem_mem hlt, hst⟩
      · rw [if_neg (by simpa using hst), refadd hn (by omega) h3 h4 ho hst (by rw [List.length_map, List.length_map, List.length_take]; omega) (by rw [List.length_map, List.length_map, List.length_take]; omega) ⟨b1, b2⟩, jn_some_inl]
        refine .inl ⟨_, rfl, ?_, fun s hs => ?_⟩
        · rw [take_succ' hlt]
          simp only [List.map_append, List.map_cons, List.map_nil, wsum, List.sum_append, List.sum_cons, List.sum_nil, Int.add_zero]
        · rw [take_succ' hlt] at hs
          rcases List.mem_append.1 hs with hs | hs
          · exact q s hs
          · have := List.mem_singleton.1 hs
            subst this
            exact hst) with ⟨w, g1, rfl, g2⟩ | ⟨b, g1, rfl, s, g2, g3⟩
  · rw [Nat.zero_add, List.take_length] at g2
    rw [g1, jn_some_inl, if_pos g2, Nat.zero_add, List.take_length]
    simp only
    generalize hway : r.map (lk n l o) = way at *
    rw [forR_list (by omega)]
    have lf : (way.map (·.from_)).length = r.length := by simp [hlen]
    have lt' : (way.map (·.to_)).length = r.length := by simp [hlen]
    have gt : ∀ i (h : i < way.length), gd (way.map (·.to_)) i = way[i].to_ := fun i h => by
      have := gd_at (xs := way.map (·.to_)) (k := i) (by rw [lt']; omega)
      rw [List.getElem?_map, List.getElem?_eq_getElem h] at this
      exact (Option.some.inj this).symm
    have gf : ∀ i (h : i < way.length), gd (way.map (·.from_)) i = way[i].from_ := fun i h => by
      have := gd_at (xs := way.map (·.from_)) (k := i) (by rw [lf]; omega)
      rw [List.getElem?_map, List.getElem?_eq_getElem h] at this
      exact (Option.some.inj this).symm
    rcases forN_inv (S := Unit) (B := Int × Int) (body := fun k783 _ =>
          if (↑(k783 + 1) : Int) < (↑r.length : Int) then
            (chk (↑k783 : Int) (way.map (·.to_)).length).bind fun _ =>
            (chk (↑(k783 + 1) : Int) (way.map (·.from_)).length).bind fun _ =>
            if (gd (way.map (·.to_)) k783) = (gd (way.map (·.from_)) (k783 + 1)) then
              some (.inl ())
            else
              esc (some (0, 8))
          else
            (chk (↑k783 : Int) (way.map (·.to_)).length).bind fun _ =>
            (chk 0 (way.map (·.from_)).length).bind fun _ =>
            if (gd (way.map (·.to_)) k783) = (gd (way.map (·.from_)) 0) then
              some (.inl ())
            else
              esc (some (0, 8))) (fun i _ => ∀ j, j < i → cl way j) (fun b => b = (0, 8) ∧ ¬ Closed way) r.length 0 () (fun j h => by omega)
      (by
        rintro i _ _ hi q
        have hlt : i < way.length := by omega
        have fin : ∀ m (hm : m < way.length), (i + 1) % way.length = m → (way[i].to_ = way[m].from_ → ∀ j, j < i + 1 → cl way j) ∧ (¬ way[i].to_ = way[m].from_ → ¬ Closed way) := by
          intro m hm em
          refine ⟨fun h j hj => ?_, fun h hC => h (hC i _ _ (List.getElem?_eq_getElem hlt) (by rw [em]; exact List.getElem?_eq_getElem hm))⟩
          by_cases e : j = i
          · subst e
            intro a c ha hc2
            rw [List.getElem?_eq_getElem hlt] at ha
            rw [em, List.getElem?_eq_getElem hm] at hc2
            cases ha
            cases hc2
            exact h
          · exact q j (by omega)
        by_cases hc : (↑(i + 1) : Int) < (↑r.length : Int)
        · rw [if_pos hc, chk_ok (by omega) (by rw [lt']; omega), Option.bind_some, chk_ok (by omega) (by rw [lf]; omega), Option.bind_some, gt i hlt, gf (i + 1) (by omega)]
          obtain ⟨f1, f2⟩ := fin (i + 1) (by omega) (Nat.mod_eq_of_lt (by omega))
          by_cases hh : way[i].to_ = way[i + 1].from_
          · rw [if_pos hh]
            exact .inl ⟨(), rfl, f1 hh⟩
          · rw [if_neg hh]
            exact .inr ⟨_, rfl, rfl, f2 hh⟩
        · rw [if_neg hc, chk_ok (by omega) (by rw [lt']; omega), Option.bind_some, chk_ok (by omega) (by rw [lf]; omega), Option.bind_some, gt i hlt, gf 0 (by omega)]
          obtain ⟨f1, f2⟩ := fin 0 (by omega) (by rw [show i + 1 = way.length by omega, Nat.mod_self])
          by_cases hh : way[i].to_ = way[0].from_
          · rw [if_pos hh]
            exact .inl ⟨(), rfl, f1 hh⟩
          · rw [if_neg hh]
            exact .inr ⟨_, rfl, rfl, f2 hh⟩) with ⟨x, g3, g4⟩ | ⟨b, g3, rfl, g4⟩
    · have hC : Closed way := by
        intro i a c ha hc2
        have := (List.getElem?_eq_some_iff.1 ha).1
        exact g4 i (by omega) a c ha hc2
      rw [g3, jn_some_inl]
      by_cases hs : wsum way < 0
      · rw [if_neg (by omega), if_pos ⟨hC, hs⟩]
      · rw [if_pos (by omega), if_neg (fun h => hs h.2)]
    · rw [g3, jn_some_inr, if_neg (fun h => g4 h.1)]
  · rw [g1, jn_some_inr, if_neg (fun h => h s g2 g3)]
end
end Go.Proofs.Ytaoaelhmiggepaa
