/- What a round shows, by the program. -/
import Derived.Test.YtaoaelhmiggepaaPLinks
import Derived.Test.YtaoaelhmiggepaaPWideA
namespace Go.Proofs.Ytaoaelhmiggepaa
open Go.KL

/-- The error of owed loops and sheets. -/
def dueErr (o : List Int) (l : List T_target_Sheet) : Int := if o.length < 1 ∨ 8 < o.length then 2 else if o.all (fun k => decide (0 ≤ k ∧ k ≤ 5)) = true then shErr o.length l else 3
theorem due_eq {o : List Int} (l : List T_target_Sheet) (hl : o.length ≤ 1000) : m_target_due o l = some (dueErr o l) := by
  unfold m_target_due dueErr
  rw [within_is, Option.bind_some]
  by_cases h : o.length < 1 ∨ 8 < o.length
  · rw [if_pos h, if_neg (by simp only [decide_eq_true_eq]; omega)]
  · rw [if_neg h, if_pos (decide_eq_true (by omega)), allInt_eq (p := fun k => decide (0 ≤ k ∧ k ≤ 5)) (fun a => by unfold m_target_due_1; rw [within_is]; rfl) (by omega), Option.bind_some]
    by_cases h2 : o.all (fun k => decide (0 ≤ k ∧ k ≤ 5)) = true
    · rw [if_pos h2, if_pos h2, check_eq]
      rfl
    · rw [if_neg h2, if_neg h2]
theorem dueErr_ok {o : List Int} {l : List T_target_Sheet} (h : dueErr o l = 0) : 1 ≤ o.length ∧ o.length ≤ 8 ∧ (∀ k ∈ o, 0 ≤ k ∧ k ≤ 5) ∧ shErr o.length l = 0 := by
  unfold dueErr at h
  split at h
  · cases h
  · split at h
    · rename_i h1 h2
      exact ⟨by omega, by omega, fun k hk => of_decide_eq_true (List.all_eq_true.1 h2 k hk), h⟩
    · cases h

open Classical in
/-- What a round shows. -/
noncomputable def rs (n : Nat) (l : List T_target_Sheet) (o : List Int) (r : List T_target_Step) : Int × Int :=
  if r.length < 1 ∨ 40 < r.length then (0, 2) else
  if ∀ s ∈ r, stp n l o s ≠ none then (if Closed (r.map (lk n l o)) ∧ wsum (r.map (lk n l o)) < 0 then (wsum (r.map (lk n l o)), 0) else (0, 8)) else (0, 1)

theorem wsum_take {w : List T_target_link} {i : Nat} (h : i < w.length) : wsum (w.take (i + 1)) = wsum (w.take i) + wt w[i] := by
  unfold wsum
  rw [List.take_add_one, List.getElem?_eq_getElem h, List.map_append, List.sum_append]
  simp
theorem wsum_bnd {w : List T_target_link} (h : ∀ k ∈ w, -100 ≤ wt k ∧ wt k ≤ 100) : ∀ i, i ≤ w.length → -(100 * (i : Int)) ≤ wsum (w.take i) ∧ wsum (w.take i) ≤ 100 * (i : Int)
  | 0, _ => by simp [wsum]
  | i + 1, hi => by
    have := wsum_bnd h i (by omega)
    have := h _ (List.getElem_mem (show i < w.length by omega))
    rw [wsum_take (by omega)]
    omega
theorem wt_known {n : Nat} {ks : List T_target_link} (hk : ∀ k ∈ ks, lkOk n k) {k : T_target_link} (h : k ∈ ks) : k.count () = some (wt k) ∧ -100 ≤ wt k ∧ wt k ≤ 100 := by
  obtain ⟨_, _, _, _, w, e, w0, w1⟩ := hk k h
  have : wt k = w := by unfold wt; rw [e]; rfl
  rw [this]
  exact ⟨e, w0, w1⟩
theorem take_succ' {α : Type} {l : List α} {i : Nat} (h : i < l.length) : l.take (i + 1) = l.take i ++ [l[i]] := by
  rw [List.take_add_one, List.getElem?_eq_getElem h]
  rfl
/-- Whether a link of a way is followed by the next one. -/
def cl (way : List T_target_link) (i : Nat) : Prop := ∀ a c, way[i]? = some a → way[(i + 1) % way.length]? = some c → a.to_ = c.from_

section
variable {n : Nat} {l : List T_target_Sheet} {o : List Int}
theorem prog_shows (hn : o.length = n) (hd : dueErr o l = 0) {r : List T_target_Step} (hr : r.length ≤ 1000) : m_target_RoundShows o l r = some (rs n l o r) := by
  obtain ⟨h1, h2, ho, hz⟩ := dueErr_ok hd
  obtain ⟨_, _, h3, h4'⟩ := shErr_ok hz
  have h4 : ∀ s ∈ l, okSheet n s := fun s hs => by have := h4' s hs; rwa [Int.toNat_natCast, hn] at this
  unfold m_target_RoundShows
  rw [due_eq l (by omega), Option.bind_some, if_pos hd, within_is, Option.bind_some]
  by_cases hc : r.length < 1 ∨ 40 < r.length
  · rw [if_neg (by simp only [decide_eq_true_eq]; omega), rs, if_pos hc]
  rw [if_pos (decide_eq_true (by omega)), hn, links_known (by omega) h3 h4 (by omega) ho, Option.bind_some, forR_list (by omega)]
  obtain ⟨ks, e1, e2, e3, _⟩ := links_eq (n := n) (by omega) h3 h4 (show o.length ≤ n by omega) ho
  rw [links_known (by omega) h3 h4 (by omega) ho] at e1
  cases e1
  rw [rs, if_neg hc]
  rcases forN_inv (S := List T_target_link) (B := Int × Int) (body := fun k71 l66 =>
        (idx r (↑k71 : Int)).bind fun x95 =>
        (m_slices_IndexFunc_target_link_target_link (known n l o) (fun x => m_target_RoundShows_1 x x95)).bind fun x122 =>
        if x122 < 0 then
          esc (some (0, 1))
        else
          (idx (known n l o) x122).bind fun x138 =>
          (app 40 l66 [x138]).bind fun x156 =>
          some (.inl x156)) (fun i w => w = (r.take i).map (lk n l o) ∧ ∀ s ∈ r.take i, stp n l o s ≠ none) (fun b => b = (0, 1) ∧ ∃ s ∈ r, stp n l o s = none) r.length 0 [] ⟨rfl, fun s h => by simp at h⟩
    (by
      rintro i w _ hi ⟨rfl, q⟩
      have hlt : i < r.length := by omega
      rw [idx_nat, List.getElem?_eq_getElem hlt, Option.bind_some]
      rcases find_lk (n := n) (l := l) (o := o) (by omega) h3 (by omega) r[i] with ⟨a1, a2⟩ | ⟨a1, j, a2, a3⟩
      · rw [a2, Option.bind_some, if_pos (by decide)]
        exact .inr ⟨_, rfl, rfl, _, List.getElem_mem hlt, a1⟩
      · rw [a2, Option.bind_some, if_neg (by omega), idx_nat, a3, Option.bind_some, app_ok (by simp only [List.length_map, List.length_take, List.length_cons, List.length_nil]; omega), Option.bind_some]
        refine .inl ⟨_, rfl, by rw [take_succ' hlt, List.map_append]; rfl, fun s hs => ?_⟩
        rw [take_succ' hlt] at hs
        rcases List.mem_append.1 hs with hs | hs
        · exact q s hs
        · have := List.mem_singleton.1 hs
          subst this
          exact a1) with ⟨w, g1, rfl, g2⟩ | ⟨b, g1, rfl, s, g2, g3⟩
  · rw [Nat.zero_add, List.take_length] at g2
    rw [g1, jn_some_inl, if_pos g2, Nat.zero_add, List.take_length]
    have hlen : (r.map (lk n l o)).length = r.length := by simp
    have hmem : ∀ k ∈ r.map (lk n l o), k ∈ known n l o := fun k hk => by
      obtain ⟨s, hs, rfl⟩ := List.mem_map.1 hk
      exact (known_stp (g2 s hs)).1
    have hwt := fun k hk => wt_known e2 (hmem k hk)
    generalize hway : r.map (lk n l o) = way at *
    rw [hlen, forR_list (by omega)]
    rcases forN_inv (S := Int) (B := Int × Int) (body := fun k202 x201 =>
        (idx way (↑k202 : Int)).bind fun x223 =>
        (rem (↑(k202 + 1) : Int) (↑r.length : Int)).bind fun x248 =>
        (idx way x248).bind fun x251 =>
        if x223.to_ = x251.from_ then
          (x223.count ()).bind fun x264 =>
          some (.inl (w64 (x201 + x264)))
        else
          esc (some (0, 8))) (fun i x => x = wsum (way.take i) ∧ ∀ j, j < i → cl way j) (fun b => b = (0, 8) ∧ ¬ Closed way) r.length 0 0 ⟨rfl, fun j h => by omega⟩
      (by
        rintro i x _ hi ⟨rfl, q⟩
        have hlt : i < way.length := by omega
        have hb := wsum_bnd (fun k hk => (hwt k hk).2) i (by omega)
        obtain ⟨c1, c2⟩ := hwt _ (List.getElem_mem hlt)
        have er : rem (↑(i + 1) : Int) (↑r.length : Int) = some (((i + 1) % r.length : Nat) : Int) := by
          unfold rem
          rw [if_neg (by omega)]
          rfl
        have hm : (i + 1) % r.length < way.length := by rw [hlen]; exact Nat.mod_lt _ (by omega)
        rw [idx_nat, List.getElem?_eq_getElem hlt, Option.bind_some, er, Option.bind_some, idx_nat, List.getElem?_eq_getElem hm, Option.bind_some]
        by_cases hc' : way[i].to_ = way[(i + 1) % r.length].from_
        · rw [if_pos hc', c1, Option.bind_some]
          refine .inl ⟨_, rfl, by rw [wsum_take hlt, w64_in (by omega) (by omega)], fun j hj => ?_⟩
          by_cases e : j = i
          · subst e
            intro a c ha hc2
            rw [List.getElem?_eq_getElem hlt] at ha
            rw [hlen, List.getElem?_eq_getElem hm] at hc2
            cases ha
            cases hc2
            exact hc'
          · exact q j (by omega)
        · rw [if_neg hc']
          refine .inr ⟨_, rfl, rfl, fun hC => hc' ?_⟩
          exact hC i _ _ (List.getElem?_eq_getElem hlt) (by rw [hlen]; exact List.getElem?_eq_getElem hm)) with ⟨x, g3, rfl, g4⟩ | ⟨b, g3, rfl, g4⟩
    · have hC : Closed way := by
        intro i a c ha hc2
        have := (List.getElem?_eq_some_iff.1 ha).1
        exact g4 i (by omega) a c ha hc2
      have et : way.take (0 + r.length) = way := by rw [Nat.zero_add, ← hlen, List.take_length]
      rw [g3, jn_some_inl, et]
      by_cases hs : wsum way < 0
      · rw [if_neg (by omega), if_pos ⟨hC, hs⟩]
      · rw [if_pos (by omega), if_neg (fun h => hs h.2)]
    · rw [g3, jn_some_inr, if_neg (fun h => g4 h.1)]
  · rw [g1, jn_some_inr, if_neg (fun h => h s g2 g3)]

end
end Go.Proofs.Ytaoaelhmiggepaa
