/- What 'target.Round' returns. -/
import Derived.Test.YtaoaelhmiggepaaPShowP
namespace Go.Proofs.Ytaoaelhmiggepaa
open Go.KL

/-- What numbers allow, and a closed way, cannot be below 0. -/
theorem closed_sum {ks way : List T_target_link} {x : Nat → Int} (F : Feas ks x) (hk : ∀ k ∈ way, k ∈ ks) (hw : ∀ k ∈ way, k.count () = some (wt k)) (hC : Closed way) (hne : way ≠ []) : 0 ≤ wsum way := by
  obtain ⟨m, hm⟩ : ∃ m, way.length = m + 1 := ⟨way.length - 1, by have := List.length_pos_iff.2 hne; omega⟩
  have one : ∀ i (h : i < way.length), x way[i].to_.toNat - x way[i].from_.toNat ≤ wt way[i] := fun i h => F _ (hk _ (List.getElem_mem h)) _ (hw _ (List.getElem_mem h))
  have path : ∀ i (h : i < way.length), x way[i].from_.toNat - x (way[0]'(by omega)).from_.toNat ≤ wsum (way.take i) := by
    intro i
    induction i with
    | zero => intro h; simp [wsum]
    | succ i ih =>
      intro h
      have i1 := ih (by omega)
      have i2 := one i (by omega)
      have i3 := hC i _ _ (List.getElem?_eq_getElem (by omega)) (by rw [Nat.mod_eq_of_lt (by omega)]; exact List.getElem?_eq_getElem h)
      rw [wsum_take (by omega), ← i3]
      omega
  have p1 := path m (by omega)
  have p2 := one m (by omega)
  have p3 := hC m _ _ (List.getElem?_eq_getElem (by omega)) (by rw [← hm, Nat.mod_self]; exact List.getElem?_eq_getElem (by omega))
  have e : wsum way = wsum (way.take m) + wt way[m] := by
    rw [← wsum_take (by omega), ← hm, List.take_length]
  rw [e]
  rw [p3] at p2
  omega

theorem revStep {l : List T_target_Step} (hl : l.length ≤ 100) : m_slices_Reverse_target_Step_target_Step l = some l.reverse := by
  unfold m_slices_Reverse_target_Step_target_Step
  exact rev_loop (by omega)

section
variable {n : Nat} {l : List T_target_Sheet} {o : List Int}
/-- What 'target.Round' returns. -/
theorem Round_eq (hn : o.length = n) (hd : dueErr o l = 0) : ((∃ x, Fit n l o x) ∧ m_target_Round o l = some ([], 6)) ∨
    ((¬ ∃ x, Fit n l o x) ∧ ∃ way, way ≠ [] ∧ way.length ≤ 9 ∧ (∀ k ∈ way, k ∈ known n l o) ∧ Closed way ∧ wsum way < 0 ∧ m_target_Round o l = some (way.map (·.Step), 0) ∧ ((∃ x, Fit n l [] x) ∨ ∀ k ∈ way, k.Step.Kind ≠ 4)) := by
  obtain ⟨h1, h2, ho, hz⟩ := dueErr_ok hd
  obtain ⟨_, _, h3, h4'⟩ := shErr_ok hz
  have h4 : ∀ s ∈ l, okSheet n s := fun s hs => by have := h4' s hs; rwa [Int.toNat_natCast, hn] at this
  have hk0 := links_known (n := n) (by omega) h3 h4 (owed := []) (by simp) (fun k hk => by cases hk)
  have hk1 := links_known (n := n) (by omega) h3 h4 (owed := o) (by omega) ho
  obtain ⟨k0, a1, a2, a3, a4⟩ := links_eq (n := n) (by omega) h3 h4 (owed := []) (by simp) (fun k hk => by cases hk)
  obtain ⟨k1, b1, b2, b3, b4⟩ := links_eq (n := n) (by omega) h3 h4 (owed := o) (by omega) ho
  rw [hk0] at a1
  cases a1
  rw [hk1] at b1
  cases b1
  unfold m_target_Round
  rw [due_eq l (by omega), Option.bind_some, if_pos hd, hn, hk0, Option.bind_some, hk1, Option.bind_some]
  have fitn : ∀ x, Fit n l o x → Fit n l [] x := fun x F => ⟨F.sh, F.bo, fun b k h => by simp at h⟩
  rcases round_some (by omega) a2 a3 (fun l h => revStep h) with ⟨r1, r2⟩ | ⟨way, w1, w2, w3, w4, w5, w6⟩
  · rw [r1, Option.bind_some, if_pos rfl]
    obtain ⟨x, hx⟩ := r2
    have hx := (a4 x).1 hx
    rcases round_some (by omega) b2 b3 (fun l h => revStep h) with ⟨s1, s2⟩ | ⟨way, w1, w2, w3, w4, w5, w6⟩
    · rw [s1, Option.bind_some, if_pos rfl]
      obtain ⟨y, hy⟩ := s2
      exact .inl ⟨⟨y, (b4 y).1 hy⟩, rfl⟩
    · right
      refine ⟨fun ⟨y, hy⟩ => ?_, way, w1, by omega, w3, w4, w5, ?_, .inl ⟨x, hx⟩⟩
      · have := closed_sum ((b4 y).2 hy) w3 (fun k hk => (wt_known b2 (w3 k hk)).1) w4 w1
        omega
      · rw [w6, Option.bind_some, if_neg (fun e => w1 (by simpa using e))]
  · right
    have no : ¬ ∃ x, Fit n l [] x := fun ⟨y, hy⟩ => by
      have := closed_sum ((a4 y).2 hy) w3 (fun k hk => (wt_known a2 (w3 k hk)).1) w4 w1
      omega
    refine ⟨fun ⟨y, hy⟩ => no ⟨y, fitn y hy⟩, way, w1, by omega, fun k hk => (known_sub o (w3 k hk)).1, w4, w5, ?_, .inr fun k hk => (known_sub o (w3 k hk)).2⟩
    rw [w6, Option.bind_some, if_neg (fun e => w1 (by simpa using e))]
/-- A way that 'target.Round' returns shows what it shows. -/
theorem rs_way {way : List T_target_link} (hne : way ≠ []) (hl : way.length ≤ 9) (hk : ∀ k ∈ way, k ∈ known n l o) (hC : Closed way) (hs : wsum way < 0) : rs n l o (way.map (·.Step)) = (wsum way, 0) := by
  have e : (way.map (·.Step)).map (lk n l o) = way := by
    rw [List.map_map]
    conv => rhs; rw [← List.map_id way]
    exact List.map_congr_left fun k h => (stp_known (hk k h)).2
  have hp := List.length_pos_iff.2 hne
  rw [rs, if_neg (by rw [List.length_map]; omega), if_pos, e, if_pos ⟨hC, hs⟩]
  intro s hs'
  obtain ⟨k, h1, rfl⟩ := List.mem_map.1 hs'
  rw [(stp_known (hk k h1)).1]
  simp

theorem few_good (hn : o.length = n) (hd : dueErr o l = 0) : ∃ b, m_target_Few o l = some (b, 0) ∧ (b = false ↔ ∃ x, Fit n l o x) := by
  obtain ⟨_, _, ho, hz⟩ := dueErr_ok hd
  rw [hn] at hz
  exact few_eq hz hn ho

end
end Go.Proofs.Ytaoaelhmiggepaa
