/- The plain law of TargetDue. -/
import Derived.Test.YtaoaelhmiggepaaPShows
import Derived.Test.YtaoaelhmiggepaaPSheetB
namespace Go.Proofs.Ytaoaelhmiggepaa
open Go.KL

/-- What numbers allow, and a closed way, cannot be below 0. -/
theorem closed_sum {ks way : List T_target_link} {x : Nat → Int} (F : Feas ks x) (hk : ∀ k ∈ way, k ∈ ks) (hw : ∀ k ∈ way, k.count () = some (wt k)) (hC : Closed way) (hne : way ≠ []) : 0 ≤ wsum way := by
  obtain ⟨m, hm⟩ : ∃ m, way.length = m + 1 := ⟨way.length - 1, by have := List.length_pos_iff.2 hne; omega⟩
  have one : ∀ i (h : i < way.length), x way[i].to_.toNat - x way[i].from_.toNat ≤ wt way[i] := fun i h => F _ (hk _ (List.getElem_mem h)) _ (hw _ (List.getElem_mem h))
  have path : ∀ i (h : i < way.length), x way[i].from_.toNat - x (way[0]'(by omega)).from_.toNat ≤ wsum (way.take i) := by
    intro i
    induction i with
    | zero => intro h; simp [wsum]
    | succ i ih =>
      intro h
      have i1 := ih (by omega)
      have i2 := one i (by omega)
      have i3 := hC i _ _ (List.getElem?_eq_getElem (by omega)) (by rw [Nat.mod_eq_of_lt (by omega)]; exact List.getElem?_eq_getElem h)
      rw [wsum_take (by omega), ← i3]
      omega
  have p1 := path m (by omega)
  have p2 := one m (by omega)
  have p3 := hC m _ _ (List.getElem?_eq_getElem (by omega)) (by rw [← hm, Nat.mod_self]; exact List.getElem?_eq_getElem (by omega))
  have e : wsum way = wsum (way.take m) + wt way[m] := by
    rw [← wsum_take (by omega), ← hm, List.take_length]
  rw [e]
  rw [p3] at p2
  omega

theorem revStep {l : List T_target_Step} (hl : l.length ≤ 100) : m_slices_Reverse_target_Step_target_Step l = some l.reverse := by
  unfold m_slices_Reverse_target_Step_target_Step
  exact rev_loop (by omega)

section
variable {n : Nat} {l : List T_target_Sheet} {o : List Int}
/-- What 'target.Round' returns. -/
theorem Round_eq (hn : o.length = n) (hd : dueErr o l = 0) : ((∃ x, Fit n l o x) ∧ m_target_Round o l = some ([], 6)) ∨
    ((¬ ∃ x, Fit n l o x) ∧ ∃ way, way ≠ [] ∧ way.length ≤ 9 ∧ (∀ k ∈ way, k ∈ known n l o) ∧ Closed way ∧ wsum way < 0 ∧ m_target_Round o l = some (way.map (·.Step), 0) ∧ ((∃ x, Fit n l [] x) ∨ ∀ k ∈ way, k.Step.Kind ≠ 4)) := by
  obtain ⟨h1, h2, ho, hz⟩ := dueErr_ok hd
  obtain ⟨_, _, h3, h4'⟩ := shErr_ok hz
  have h4 : ∀ s ∈ l, okSheet n s := fun s hs => by have := h4' s hs; rwa [Int.toNat_natCast, hn] at this
  have hk0 := links_known (n := n) (by omega) h3 h4 (owed := []) (by simp) (fun k hk => by cases hk)
  have hk1 := links_known (n := n) (by omega) h3 h4 (owed := o) (by omega) ho
  obtain ⟨k0, a1, a2, a3, a4⟩ := links_eq (n := n) (by omega) h3 h4 (owed := []) (by simp) (fun k hk => by cases hk)
  obtain ⟨k1, b1, b2, b3, b4⟩ := links_eq (n := n) (by omega) h3 h4 (owed := o) (by omega) ho
  rw [hk0] at a1
  cases a1
  rw [hk1] at b1
  cases b1
  unfold m_target_Round
  rw [due_eq l (by omega), Option.bind_some, if_pos hd, hn, hk0, Option.bind_some, hk1, Option.bind_some]
  have fitn : ∀ x, Fit n l o x → Fit n l [] x := fun x F => ⟨F.sh, F.bo, fun b k h => by simp at h⟩
  rcases round_some (by omega) a2 a3 (fun l h => revStep h) with ⟨r1, r2⟩ | ⟨way, w1, w2, w3, w4, w5, w6⟩
  · rw [r1, Option.bind_some, if_pos rfl]
    obtain ⟨x, hx⟩ := r2
    have hx := (a4 x).1 hx
    rcases round_some (by omega) b2 b3 (fun l h => revStep h) with ⟨s1, s2⟩ | ⟨way, w1, w2, w3, w4, w5, w6⟩
    · rw [s1, Option.bind_some, if_pos rfl]
      obtain ⟨y, hy⟩ := s2
      exact .inl ⟨⟨y, (b4 y).1 hy⟩, rfl⟩
    · right
      refine ⟨fun ⟨y, hy⟩ => ?_, way, w1, by omega, w3, w4, w5, ?_, .inl ⟨x, hx⟩⟩
      · have := closed_sum ((b4 y).2 hy) w3 (fun k hk => (wt_known b2 (w3 k hk)).1) w4 w1
        omega
      · rw [w6, Option.bind_some, if_neg (fun e => w1 (by simpa using e))]
  · right
    have no : ¬ ∃ x, Fit n l [] x := fun ⟨y, hy⟩ => by
      have := closed_sum ((a4 y).2 hy) w3 (fun k hk => (wt_known a2 (w3 k hk)).1) w4 w1
      omega
    refine ⟨fun ⟨y, hy⟩ => no ⟨y, fitn y hy⟩, way, w1, by omega, fun k hk => (known_sub o (w3 k hk)).1, w4, w5, ?_, .inr fun k hk => (known_sub o (w3 k hk)).2⟩
    rw [w6, Option.bind_some, if_neg (fun e => w1 (by simpa using e))]
/-- A way that 'target.Round' returns shows what it shows. -/
theorem rs_way {way : List T_target_link} (hne : way ≠ []) (hl : way.length ≤ 9) (hk : ∀ k ∈ way, k ∈ known n l o) (hC : Closed way) (hs : wsum way < 0) : rs n l o (way.map (·.Step)) = (wsum way, 0) := by
  have e : (way.map (·.Step)).map (lk n l o) = way := by
    rw [List.map_map]
    conv => rhs; rw [← List.map_id way]
    exact List.map_congr_left fun k h => (stp_known (hk k h)).2
  have hp := List.length_pos_iff.2 hne
  rw [rs, if_neg (by rw [List.length_map]; omega), if_pos, e, if_pos ⟨hC, hs⟩]
  intro s hs'
  obtain ⟨k, h1, rfl⟩ := List.mem_map.1 hs'
  rw [(stp_known (hk k h1)).1]
  simp

theorem few_bad (hd : dueErr o l ≠ 0) (hl : o.length ≤ 1000) : m_target_Few o l = some (false, dueErr o l) := by
  unfold m_target_Few
  rw [due_eq l hl, Option.bind_some, if_neg hd]
theorem refFew_bad (hd : dueErr o l ≠ 0) (hl : o.length ≤ 1000) : m_klisterref03_Few o (l.map refSheet) = some (false, dueErr o l) := by
  unfold m_klisterref03_Few
  rw [owed_eq l hl, Option.bind_some, if_neg hd]
theorem few_good (hn : o.length = n) (hd : dueErr o l = 0) : ∃ b, m_target_Few o l = some (b, 0) ∧ (b = false ↔ ∃ x, Fit n l o x) := by
  obtain ⟨_, _, ho, hz⟩ := dueErr_ok hd
  rw [hn] at hz
  exact few_eq hz hn ho

theorem fitTruth {t : List Int} (h1 : t.length = n) (h2 : ∀ d ∈ t, 0 ≤ d ∧ d ≤ 9) (h3 : l.all (sat t) = true) : Fit n l [] (pre t) := by
  refine ⟨fun s h => of_decide_eq_true (List.all_eq_true.1 h3 s h), fun b hb => ?_, fun b k h => by simp at h⟩
  rw [pre_succ (by omega)]
  have := h2 _ (List.getElem_mem (show b < t.length by omega))
  omega
theorem truthFit {x : Nat → Int} (hs : ∀ s ∈ l, okSheet n s) (F : Fit n l [] x) : ∃ t : List Int, t.length = n ∧ (∀ d ∈ t, 0 ≤ d ∧ d ≤ 9) ∧ l.all (sat t) = true ∧ ∀ b, b ≤ n → pre t b = x b - x 0 := by
  have hlen : ((List.range n).map fun b => x (b + 1) - x b).length = n := by simp
  have hp : ∀ b, b ≤ n → pre ((List.range n).map fun b => x (b + 1) - x b) b = x b - x 0 := by
    intro b
    induction b with
    | zero => intro _; rw [pre_zero]; omega
    | succ b ih =>
      intro hb
      rw [pre_succ (by rw [hlen]; omega), ih (by omega), List.getElem_map, List.getElem_range]
      omega
  refine ⟨(List.range n).map fun b => x (b + 1) - x b, hlen, fun d hd => ?_, List.all_eq_true.2 fun s h => decide_eq_true ?_, hp⟩
  · obtain ⟨b, hb, rfl⟩ := List.mem_map.1 hd
    exact F.bo b (List.mem_range.1 hb)
  · obtain ⟨a0, a1, a2, _⟩ := hs s h
    have := F.sh s h
    rw [hp _ (by omega), hp _ (by omega)]
    omega

/-- Whether there are truths with enough loops. -/
theorem refFew_good (hn : o.length = n) (hn3 : n ≤ 3) (hd : dueErr o l = 0) : ∃ T b, m_klisterref03_Truths (n : Int) (l.map refSheet) = some T ∧ T.length ≤ 1000 ∧ (T = [] ↔ ¬ ∃ x, Fit n l [] x) ∧ m_klisterref03_Few o (l.map refSheet) = some (b, 0) ∧ (b = false ↔ ∃ x, Fit n l o x) := by
  obtain ⟨h1, h2, ho, hz⟩ := dueErr_ok hd
  obtain ⟨_, _, h3, h4'⟩ := shErr_ok hz
  have h4 : ∀ s ∈ l, okSheet n s := fun s hs => by have := h4' s hs; rwa [Int.toNat_natCast, hn] at this
  obtain ⟨T, t1, t2, t3⟩ := truths_eq hn3 h3 h4
  have hT : T = [] ↔ ¬ ∃ x, Fit n l [] x := by
    constructor
    · rintro rfl ⟨x, F⟩
      obtain ⟨t, g1, g2, g3, _⟩ := truthFit h4 F
      exact absurd ((t3 t).2 ⟨g1, g2, g3⟩) (by simp)
    · intro h
      cases T with
      | nil => rfl
      | cons t T =>
        obtain ⟨g1, g2, g3⟩ := (t3 t).1 (by simp)
        exact absurd ⟨_, fitTruth g1 g2 g3⟩ h
  let en : List Int → Prop := fun t => ∀ j, j < n → gd o j ≤ gd t j
  have fit : (∃ t ∈ T, en t) ↔ ∃ x, Fit n l o x := by
    constructor
    · rintro ⟨t, ht, he⟩
      obtain ⟨g1, g2, g3⟩ := (t3 t).1 ht
      have F := fitTruth g1 g2 g3
      refine ⟨_, F.sh, F.bo, fun b k hk => ?_⟩
      have hb := (List.getElem?_eq_some_iff.1 hk).1
      have := he b (by omega)
      rw [gd_is hb, gd_is (by omega)] at this
      rw [List.getElem?_eq_getElem hb] at hk
      cases hk
      rw [pre_succ (by omega)]
      omega
    · rintro ⟨x, F⟩
      obtain ⟨t, g1, g2, g3, g4⟩ := truthFit h4 ⟨F.sh, F.bo, fun b k h => by simp at h⟩
      refine ⟨t, (t3 t).2 ⟨g1, g2, g3⟩, fun j hj => ?_⟩
      have := F.ow j _ (gd_at (by omega))
      have e1 := g4 j (by omega)
      have e2 := g4 (j + 1) (by omega)
      rw [pre_succ (by omega)] at e2
      rw [gd_is (l := t) (by omega)]
      omega
  unfold m_klisterref03_Few
  rw [owed_eq l (by omega), Option.bind_some, if_pos hd, hn, t1, Option.bind_some, forR_list (by omega)]
  have inner : ∀ i (hi : i < T.length), ∃ z, (forR' 0 (n : Int) (fun k61 b60 =>
        if b60 = true then
          (idx T (↑i : Int)).bind fun x87 =>
          (idx x87 (↑k61 : Int)).bind fun x101 =>
          (idx o (↑k61 : Int)).bind fun x108 =>
          some (decide (x108 ≤ x101))
        else
          some false) true) = some z ∧ (z = true ↔ en T[i]) := by
    intro i hi
    have g1 := ((t3 _).1 (List.getElem_mem hi)).1
    rw [forR'_list (by omega)]
    obtain ⟨z, z1, z2⟩ := forN'_inv (S := Bool) (body := fun k61 b60 =>
        if b60 = true then
          (idx T (↑i : Int)).bind fun x87 =>
          (idx x87 (↑k61 : Int)).bind fun x101 =>
          (idx o (↑k61 : Int)).bind fun x108 =>
          some (decide (x108 ≤ x101))
        else
          some false) (fun k b => b = true ↔ ∀ j, j < k → gd o j ≤ gd T[i] j) n 0 true ⟨fun _ j hj => by omega, fun _ => rfl⟩
      (by
        intro k b _ hk hb
        by_cases hbt : b = true
        · rw [if_pos hbt, idx_nat, List.getElem?_eq_getElem hi, Option.bind_some, idx_nat, gd_at (by omega), Option.bind_some, idx_nat, gd_at (by omega), Option.bind_some]
          refine ⟨_, rfl, ?_⟩
          rw [decide_eq_true_eq]
          constructor
          · intro h j hj
            by_cases e : j = k
            · subst e; exact h
            · exact hb.1 hbt j (by omega)
          · intro h; exact h k (by omega)
        · rw [if_neg hbt]
          exact ⟨false, rfl, ⟨fun h => (by cases h), fun h => absurd (hb.2 fun j hj => h j (by omega)) hbt⟩⟩)
    rw [Nat.zero_add] at z2
    exact ⟨z, z1, z2⟩
  rcases forN_inv (S := Unit) (B := Bool × Int) (body := fun k36 _ =>
      (forR' 0 (n : Int) (fun k61 b60 =>
        if b60 = true then
          (idx T (↑k36 : Int)).bind fun x87 =>
          (idx x87 (↑k61 : Int)).bind fun x101 =>
          (idx o (↑k61 : Int)).bind fun x108 =>
          some (decide (x108 ≤ x101))
        else
          some false) true).bind fun y66 =>
      if y66 = true then
        esc (some (false, 0))
      else
        some (.inl ())) (fun i _ => ∀ t ∈ T.take i, ¬ en t) (fun b => b = (false, 0) ∧ ∃ t ∈ T, en t) T.length 0 () (fun t h => by simp at h)
    (by
      intro i _ _ hi q
      have hlt : i < T.length := by omega
      obtain ⟨z, z1, z2⟩ := inner i hlt
      rw [z1, Option.bind_some]
      by_cases hz' : z = true
      · rw [if_pos hz']
        exact .inr ⟨_, rfl, rfl, _, List.getElem_mem hlt, z2.1 hz'⟩
      · rw [if_neg hz']
        have h : ¬ en T[i] := fun e => hz' (z2.2 e)
        refine .inl ⟨(), rfl, fun t ht => ?_⟩
        rw [take_succ' hlt] at ht
        rcases List.mem_append.1 ht with ht | ht
        · exact q t ht
        · have := List.mem_singleton.1 ht
          subst this
          exact h) with ⟨_, g1, g2⟩ | ⟨b, g1, rfl, g2⟩
  · rw [Nat.zero_add, List.take_length] at g2
    rw [g1, jn_some_inl]
    refine ⟨T, true, rfl, t2, hT, rfl, fun h => (by cases h), fun h => ?_⟩
    obtain ⟨t, h5, h6⟩ := fit.2 h
    exact absurd h6 (g2 t h5)
  · rw [g1, jn_some_inr]
    exact ⟨T, false, rfl, t2, hT, rfl, fun _ => fit.1 g2, fun _ => rfl⟩

/-- Three skiers, of whom the one in the middle is asked. -/
theorem Due3 {b : Bool} {e : Int} (hf : m_target_Few o l = some (b, e)) : m_target_Due [[0], o, [1]] [[], l, [⟨0, 0, ⟨0, 0⟩⟩]] = some (if e = 0 then (if b = true then ([1, 2], 0) else ([2], 0)) else ([], e)) := by
  have f0 : m_target_Few [0] [] = some (false, 0) := by
    obtain ⟨b, g1, g2⟩ := few_good (o := [0]) (l := []) (n := 1) rfl (by decide)
    rw [g1, g2.2 ⟨fun _ => 0, fun s h => (by cases h), fun b _ => by decide, fun b k h => ?_⟩]
    cases b with
    | zero => simp at h; subst h; decide
    | succ b => simp at h
  have f2 : m_target_Few [1] [⟨0, 0, ⟨0, 0⟩⟩] = some (true, 0) := by
    obtain ⟨b, g1, g2⟩ := few_good (o := [1]) (l := [⟨0, 0, ⟨0, 0⟩⟩]) (n := 1) rfl (by decide)
    cases b with
    | true => exact g1
    | false =>
      obtain ⟨x, F⟩ := g2.1 rfl
      have h1 := (F.sh _ (List.mem_singleton.2 rfl)).2
      have h2 := F.ow 0 1 rfl
      have h1 : x 1 - x 0 ≤ 0 := h1
      have h2 : 1 ≤ x 1 - x 0 := h2
      omega
  unfold m_target_Due
  rw [if_neg (by simp), if_pos (by rfl)]
  have i1 : ∀ {α : Type} (a b c : α), idx [a, b, c] (↑(0 : Nat) : Int) = some a := fun a b c => rfl
  have i2 : ∀ {α : Type} (a b c : α), idx [a, b, c] (↑(0 + 1 : Nat) : Int) = some b := fun a b c => rfl
  have i3 : ∀ {α : Type} (a b c : α), idx [a, b, c] (↑(0 + 1 + 1 : Nat) : Int) = some c := fun a b c => rfl
  rw [forR_list (by simp)]
  show jn (forN _ 3 0 []) _ = _
  simp only [forN, i1, i2, i3, Option.bind_some, f0, hf, f2, if_true, Bool.false_eq_true, if_false]
  by_cases he : e = 0
  · subst he
    cases b
    · simp only [if_true, Bool.false_eq_true, if_false]
      rfl
    · simp only [if_true]
      rfl
  · simp only [if_neg he]
    rfl
end

theorem eqI {l : List Int} (h : l.length ≤ 1000) : m_klisterkit_Equal_int l l = some true := by
  unfold m_klisterkit_Equal_int
  exact equal_self (by omega)
theorem eqSh {l : List T_target_Sheet} (h : l.length ≤ 1000) : m_klisterkit_Equal_target_Sheet l l = some true := by
  unfold m_klisterkit_Equal_target_Sheet
  exact equal_self (by omega)
theorem eqSt {l : List T_target_Step} (h : l.length ≤ 1000) : m_klisterkit_Equal_target_Step l l = some true := by
  unfold m_klisterkit_Equal_target_Step
  exact equal_self (by omega)

theorem law_Due (p0 : List Int) (p1 : List T_target_Sheet) (p2 : List T_target_Step) : m_klisterlaw03_TargetDue p0 p1 p2 = some true := by
  unfold m_klisterlaw03_TargetDue
  have e0 : (if 3 < (↑p0.length : Int) then
    if (↑p0.length : Int) ≤ 8 then
      some true
    else
      if 12 < (↑p0.length : Int) then
        some true
      else
        if 25 < (↑p1.length : Int) then
          some true
        else
          some (decide (45 < (↑p2.length : Int)))
  else
    if 12 < (↑p0.length : Int) then
      some true
    else
      if 25 < (↑p1.length : Int) then
        some true
      else
        some (decide (45 < (↑p2.length : Int)))) = some (decide ((3 < p0.length ∧ p0.length ≤ 8) ∨ 12 < p0.length ∨ 25 < p1.length ∨ 45 < p2.length)) := by
    by_cases h1 : 3 < (p0.length : Int)
    · rw [if_pos h1]
      by_cases h2 : (p0.length : Int) ≤ 8
      · rw [if_pos h2, decide_eq_true (by omega)]
      · rw [if_neg h2]
        by_cases h3 : 12 < (p0.length : Int)
        · rw [if_pos h3, decide_eq_true (by omega)]
        · rw [if_neg h3]
          by_cases h4 : 25 < (p1.length : Int)
          · rw [if_pos h4, decide_eq_true (by omega)]
          · rw [if_neg h4]
            congr 1
            exact decide_eq_decide.2 (by omega)
    · rw [if_neg h1]
      by_cases h3 : 12 < (p0.length : Int)
      · rw [if_pos h3, decide_eq_true (by omega)]
      · rw [if_neg h3]
        by_cases h4 : 25 < (p1.length : Int)
        · rw [if_pos h4, decide_eq_true (by omega)]
        · rw [if_neg h4]
          congr 1
          exact decide_eq_decide.2 (by omega)
  rw [e0, Option.bind_some]
  by_cases hg : (3 < p0.length ∧ p0.length ≤ 8) ∨ 12 < p0.length ∨ 25 < p1.length ∨ 45 < p2.length
  · rw [if_pos (decide_eq_true hg)]
    rfl
  rw [if_neg (by simpa using hg)]
  have eA : m_klisterlaw03_awake = some true := rfl
  have c0 : m_klisterkit_Clone_int p0 = some p0 := by
    unfold m_klisterkit_Clone_int
    rw [app_ok (by simp only [List.length_nil]; omega)]
    rfl
  have c1 : m_klisterkit_Clone_target_Sheet p1 = some p1 := by
    unfold m_klisterkit_Clone_target_Sheet
    rw [app_ok (by simp only [List.length_nil]; omega)]
    rfl
  have c2 : m_klisterkit_Clone_target_Step p2 = some p2 := by
    unfold m_klisterkit_Clone_target_Step
    rw [app_ok (by simp only [List.length_nil]; omega)]
    rfl
  rw [c0, Option.bind_some, c1, Option.bind_some, c2, Option.bind_some, sheets_eq (by omega), Option.bind_some]
  have tail : ∀ a : List Int, a.length ≤ 1000 → ((m_klisterkit_Equal_int a a).bind fun x609 =>
                  if x609 = true then
                    (m_klisterkit_Equal_int p0 p0).bind fun x650 =>
                    if x650 = true then
                      (m_klisterkit_Equal_target_Sheet p1 p1).bind fun x693 =>
                      if x693 = true then
                        (m_klisterkit_Equal_target_Step p2 p2).bind fun x740 =>
                        if x740 = true then
                          (m_klisterlaw03_awake).bind fun x752 =>
                          some x752
                        else
                          some false
                      else
                        some false
                    else
                      some false
                  else
                    some false) = some true := by
    intro a ha
    rw [eqI ha, Option.bind_some, if_pos rfl, eqI (by omega), Option.bind_some, if_pos rfl, eqSh (by omega), Option.bind_some, if_pos rfl, eqSt (by omega), Option.bind_some, if_pos rfl, eA]
    rfl
  by_cases hd : dueErr p0 p1 = 0
  · obtain ⟨h1, h2, ho, hz⟩ := dueErr_ok hd
    have hn3 : p0.length ≤ 3 := by omega
    obtain ⟨b, f1, f2⟩ := few_good rfl hd
    obtain ⟨T, b', t1, t2, t3, g1, g2⟩ := refFew_good rfl hn3 hd
    have eb : b' = b := by
      cases b with
      | false => exact g2.2 (f2.1 rfl)
      | true =>
        cases b' with
        | true => rfl
        | false => exact absurd (f2.2 (g2.1 rfl)) (by decide)
    subst eb
    rw [f1, Option.bind_some]
    simp only
    rw [g1, Option.bind_some]
    simp only
    rw [if_pos (by simp), if_pos trivial, prog_shows rfl hd (by omega), Option.bind_some, stepped_eq (by omega), Option.bind_some, ref_shows rfl hd (by omega), Option.bind_some]
    simp only [if_true]
    rcases Round_eq rfl hd with ⟨hx, r1⟩ | ⟨hx, way, w1, w2, w3, w4, w5, w6, w7⟩
    · have hb := f2.2 hx
      subst hb
      rw [r1, Option.bind_some]
      simp only [Bool.false_eq_true, if_false, if_true, List.length_nil]
      rw [if_neg (by decide), jn_some_inl, show m_klisterlaw03_span 0 0 = some ⟨0, 0⟩ from rfl, Option.bind_some, Due3 f1, Option.bind_some]
      simp only [Bool.false_eq_true, if_false, if_true]
      exact tail [2] (by decide)
    · have hb : b' = true := by
        cases b' with
        | true => rfl
        | false => exact absurd (f2.1 rfl) hx
      subst hb
      have hlw : (way.map (·.Step)).length ≤ 1000 := by rw [List.length_map]; omega
      rw [w6, Option.bind_some]
      simp only [if_true]
      rw [stepped_eq hlw, Option.bind_some, ref_shows rfl hd hlw, rs_way w1 w2 w3 w4 w5, Option.bind_some]
      simp only [if_true]
      rw [if_neg (by omega), t1, Option.bind_some]
      have hj : (if (T.length : Int) = 0 then
                        jn (forR 0 (↑(way.map (·.Step)).length : Int) (fun k367 (_ : Unit) =>
                          (idx (way.map (·.Step)) (↑k367 : Int)).bind fun x394 =>
                          if x394.Kind = 4 then
                            esc (esc (some false))
                          else
                            some (.inl ())) ()) fun _ =>
                        some (.inl ())
                      else
                        some (.inl ())) = (some (.inl ()) : Option (Unit ⊕ Bool)) := by
        by_cases hT : (T.length : Int) = 0
        · rw [if_pos hT, forR_list (by omega)]
          have hT' : T = [] := List.eq_nil_of_length_eq_zero (by omega)
          rcases w7 with w7 | w7
          · exact absurd w7 (t3.1 hT')
          · have hq := forN_inv (S := Unit) (B := Unit ⊕ Bool) (body := fun k367 (_ : Unit) =>
                          (idx (way.map (·.Step)) (↑k367 : Int)).bind fun x394 =>
                          if x394.Kind = 4 then
                            esc (esc (some false))
                          else
                            some (.inl ())) (fun _ _ => True) (fun _ => False) (way.map (·.Step)).length 0 () trivial
              (by
                intro i _ _ hi _
                have hlt : i < way.length := by rw [List.length_map] at hi; omega
                rw [idx_nat, List.getElem?_map, List.getElem?_eq_getElem hlt]
                simp only [Option.map_some, Option.bind_some]
                rw [if_neg (w7 _ (List.getElem_mem hlt))]
                exact .inl ⟨(), rfl, trivial⟩)
            rcases hq with ⟨_, q1, _⟩ | ⟨_, _, q2⟩
            · rw [q1]; rfl
            · exact q2.elim
        · rw [if_neg hT]
      rw [hj, jn_some_inl, show m_klisterlaw03_span 0 0 = some ⟨0, 0⟩ from rfl, Option.bind_some, Due3 f1, Option.bind_some]
      simp only [if_true]
      exact tail [1, 2] (by decide)
  · rw [few_bad hd (by omega), Option.bind_some]
    simp only
    rw [refFew_bad hd (by omega), Option.bind_some]
    simp only
    rw [if_pos (by simp), if_pos trivial, prog_shows_bad hd (by omega), Option.bind_some, stepped_eq (by omega), Option.bind_some, ref_shows_bad hd (by omega), Option.bind_some]
    simp only [if_true]
    have hr : m_target_Round p0 p1 = some ([], dueErr p0 p1) := by
      unfold m_target_Round
      rw [due_eq p1 (by omega), Option.bind_some, if_neg hd]
    rw [hr, Option.bind_some]
    simp only [if_neg hd, if_true, List.length_nil]
    rw [if_neg (by decide), jn_some_inl, show m_klisterlaw03_span 0 0 = some ⟨0, 0⟩ from rfl, Option.bind_some, Due3 (few_bad hd (by omega)), Option.bind_some]
    simp only [if_neg hd, Bool.false_eq_true, if_false, if_true]
    exact tail [] (by decide)
end Go.Proofs.Ytaoaelhmiggepaa
