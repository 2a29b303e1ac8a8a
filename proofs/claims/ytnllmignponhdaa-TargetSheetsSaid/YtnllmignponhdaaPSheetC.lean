/- The plain law of TargetSheets. -/
import Derived.Test.YtnllmignponhdaaPSheetB
namespace Go.Proofs.Ytnllmignponhdaa
open Go.KL

theorem Fit.up {n : Nat} {l : List T_target_Sheet} {o : List Int} {x : Nat → Int} (F : Fit n l o x) : ∀ b, b ≤ n → 0 ≤ x b - x 0 ∧ x b - x 0 ≤ 9 * b
  | 0, _ => by omega
  | b + 1, hb => by
    have := F.up b (by omega)
    have := F.bo b (by omega)
    omega
theorem Fit.far {n : Nat} {l : List T_target_Sheet} {o : List Int} {x : Nat → Int} (F : Fit n l o x) (hn : n ≤ 8) : ∀ a b, a ≤ n → b ≤ n → x b - x a ≤ 1048576 := by
  intro a b ha hb
  have := F.up a ha
  have := F.up b hb
  omega
theorem shErr_cases (n : Int) (l : List T_target_Sheet) : shErr n l = 0 ∨ shErr n l = 1 ∨ shErr n l = 2 ∨ shErr n l = 3 := by
  unfold shErr
  split
  · omega
  · split
    · split <;> omega
    · omega
theorem shErr_ok {n : Int} {l : List T_target_Sheet} (h : shErr n l = 0) : 1 ≤ n ∧ n ≤ 8 ∧ l.length ≤ 20 ∧ ∀ s ∈ l, okSheet n.toNat s := by
  unfold shErr at h
  split at h
  · cases h
  · split at h
    · split at h
      · rename_i h1 h2 h3
        refine ⟨by omega, by omega, by omega, fun s hs => ?_⟩
        have a1 := of_decide_eq_true (List.all_eq_true.1 h2 s hs)
        have a2 := of_decide_eq_true (List.all_eq_true.1 h3 s hs)
        exact ⟨a1.1, a1.2.1, by omega, a2.1, a2.2.1, a2.2.2⟩
      · cases h
    · cases h

theorem counted_bad {n : Int} {l : List T_target_Sheet} (h : shErr n l ≠ 0) : ∃ y, m_target_counted n l = some (y, shErr n l) := by
  unfold m_target_counted
  rw [check_eq, Option.bind_some, if_neg h]
  exact ⟨_, rfl⟩
theorem counted_good {n : Nat} {l : List T_target_Sheet} (h : shErr n l = 0) : ∃ y ok ks, m_target_counted n l = some (y, if ok = true then 0 else 7) ∧ Dist n ks y ok ∧ (∀ k ∈ ks, lkOk n k) ∧ ∀ x, Feas ks x ↔ Fit n l [] x := by
  obtain ⟨h1, h2, h3, h4⟩ := shErr_ok h
  obtain ⟨ks, g1, g2, g3, g4⟩ := links_eq (n := n) (by omega) h3 (fun s hs => by have := h4 s hs; rwa [Int.toNat_natCast] at this) (owed := []) (by simp) (fun k hk => by cases hk)
  obtain ⟨y, ok, d1, d2⟩ := dist_eq (n := n) (by omega) g2 g3
  refine ⟨y, ok, ks, ?_, d2, g2, g4⟩
  unfold m_target_counted
  rw [check_eq, Option.bind_some, if_pos h, g1, Option.bind_some, d1]
  cases ok <;> rfl

theorem between_bad {n : Int} {l : List T_target_Sheet} (h : shErr n l ≠ 0) (f t : Int) : m_target_Between n l f t = some (⟨0, 0⟩, shErr n l) := by
  obtain ⟨y, hc⟩ := counted_bad h
  unfold m_target_Between
  rw [hc, Option.bind_some]
  simp only
  have h7 : shErr n l ≠ 7 := by have := shErr_cases n l; omega
  rw [if_neg h, Option.bind_some, decide_eq_false h7, if_neg (by decide), if_neg h]
theorem refBetween_bad {n : Int} {l : List T_target_Sheet} (h : shErr n l ≠ 0) (f t : Int) : m_klisterref03_Between n (l.map refSheet) f t = some (⟨0, 0⟩, shErr n l) := by
  unfold m_klisterref03_Between
  rw [refCheck_eq, Option.bind_some, if_neg h]

theorem between_prog {n : Nat} {l : List T_target_Sheet} {y : Arr Int 81} {ok : Bool} {ks : List T_target_link} (hn : n ≤ 8) (hc : m_target_counted n l = some (y, if ok = true then 0 else 7)) (D : Dist n ks y ok) (f t : Int) :
    m_target_Between n l f t = some (if 0 ≤ f ∧ f ≤ t ∧ t < n then (if ok = true then (⟨-(mx y (t + 1).toNat f.toNat), mx y f.toNat (t + 1).toNat⟩, 0) else (⟨0, 0⟩, 7)) else (⟨0, 0⟩, 1)) := by
  unfold m_target_Between
  rw [hc, Option.bind_some]
  simp only
  have e : (if (if ok = true then (0 : Int) else 7) = 0 then some true else some (decide ((if ok = true then (0 : Int) else 7) = 7))) = some true := by cases ok <;> rfl
  rw [e, Option.bind_some, if_pos rfl, within_is, Option.bind_some]
  by_cases h : 0 ≤ f ∧ f ≤ t ∧ t < n
  · rw [if_pos h, if_pos (by simpa using ⟨h.1, h.2.1⟩), Option.bind_some, if_neg (by simp; omega)]
    have hw : w64 (t + 1) = t + 1 := w64_in (by omega) (by omega)
    have b1 := D.lo (t + 1).toNat f.toNat (by omega) (by omega)
    have b2 := D.hi (t + 1).toNat f.toNat (by omega) (by omega)
    cases ok with
    | true =>
      simp only [if_true]
      rw [hw, chk_ok (by omega) (by omega), Option.bind_some, chk_ok (by omega) (by omega), Option.bind_some]
      have : w64 (-(y.get ((t + 1).toNat * 9 + f.toNat))) = -(mx y (t + 1).toNat f.toNat) := w64_in (by show _ ≤ -(mx y (t + 1).toNat f.toNat); omega) (by show -(mx y (t + 1).toNat f.toNat) ≤ _; omega)
      rw [this]
      rfl
    | false => rfl
  · rw [if_neg h]
    by_cases h1 : 0 ≤ f ∧ f ≤ t
    · rw [if_pos (by simpa using h1), Option.bind_some, if_pos (by simp; omega)]
    · rw [if_neg (by simpa using h1), Option.bind_some, if_pos rfl]

theorem fit_of_truth {n : Nat} {l : List T_target_Sheet} {t : List Int} (hs : ∀ s ∈ l, okSheet n s) (h1 : t.length = n) (h2 : ∀ d ∈ t, 0 ≤ d ∧ d ≤ 9) (h3 : l.all (sat t) = true) : Fit n l [] (pre t) := by
  refine ⟨fun s h => of_decide_eq_true (List.all_eq_true.1 h3 s h), fun b hb => ?_, fun b k h => by simp at h⟩
  rw [pre_succ (by omega)]
  have := h2 _ (List.getElem_mem (show b < t.length by omega))
  omega
theorem truth_of_fit {n : Nat} {l : List T_target_Sheet} {x : Nat → Int} (hs : ∀ s ∈ l, okSheet n s) (F : Fit n l [] x) : ∃ t : List Int, t.length = n ∧ (∀ d ∈ t, 0 ≤ d ∧ d ≤ 9) ∧ l.all (sat t) = true ∧ ∀ b, b ≤ n → pre t b = x b - x 0 := by
  have hlen : ((List.range n).map fun b => x (b + 1) - x b).length = n := by simp
  have hp : ∀ b, b ≤ n → pre ((List.range n).map fun b => x (b + 1) - x b) b = x b - x 0 := by
    intro b
    induction b with
    | zero => intro _; rw [pre_zero]; omega
    | succ b ih =>
      intro hb
      rw [pre_succ (by rw [hlen]; omega), ih (by omega), List.getElem_map, List.getElem_range]
      omega
  refine ⟨(List.range n).map fun b => x (b + 1) - x b, hlen, fun d hd => ?_, List.all_eq_true.2 fun s h => decide_eq_true ?_, hp⟩
  · obtain ⟨b, hb, rfl⟩ := List.mem_map.1 hd
    exact F.bo b (List.mem_range.1 hb)
  · obtain ⟨a0, a1, a2, _⟩ := hs s h
    have := F.sh s h
    rw [hp _ (by omega), hp _ (by omega)]
    omega

theorem between_ref {n : Nat} {l : List T_target_Sheet} (hn : n ≤ 3) (h0 : shErr n l = 0) (f t : Int) {y : Arr Int 81} {ok : Bool} {ks : List T_target_link} (D : Dist n ks y ok) (hk : ∀ k ∈ ks, lkOk n k) (hF : ∀ x, Feas ks x ↔ Fit n l [] x) :
    m_klisterref03_Between n (l.map refSheet) f t = some (if 0 ≤ f ∧ f ≤ t ∧ t < n then (if ok = true then (⟨-(mx y (t + 1).toNat f.toNat), mx y f.toNat (t + 1).toNat⟩, 0) else (⟨0, 0⟩, 7)) else (⟨0, 0⟩, 1)) := by
  obtain ⟨_, _, h3, h4'⟩ := shErr_ok h0
  have h4 : ∀ s ∈ l, okSheet n s := fun s hs => by have := h4' s hs; rwa [Int.toNat_natCast] at this
  unfold m_klisterref03_Between
  rw [refCheck_eq, Option.bind_some, if_pos h0]
  by_cases g1 : f < 0
  · rw [if_pos g1, if_neg (by omega)]
  rw [if_neg g1]
  by_cases g2 : (n : Int) ≤ t
  · rw [if_pos g2, if_neg (by omega)]
  rw [if_neg g2]
  by_cases g3 : t < f
  · rw [if_pos g3, if_neg (by omega)]
  rw [if_neg g3, if_pos ⟨by omega, by omega, by omega⟩]
  obtain ⟨T, e1, e2, e3⟩ := truths_eq hn h3 h4
  rw [e1, Option.bind_some]
  by_cases hT : T = []
  · subst hT
    rw [if_pos (by simp)]
    cases ok with
    | false => rfl
    | true =>
      have F := (hF _).1 (D.pot hk (a := 0) (by omega))
      obtain ⟨u, u1, u2, u3, _⟩ := truth_of_fit h4 F
      have := (e3 u).2 ⟨u1, u2, u3⟩
      cases this
  · have hpos : 0 < T.length := List.length_pos_iff.2 hT
    rw [if_neg (by omega), forR'_list (by omega)]
    have hfit : ∀ u ∈ T, Fit n l [] (pre u) := fun u hu => by
      obtain ⟨a, b, c⟩ := (e3 u).1 hu
      exact fit_of_truth h4 a b c
    have hokt : ok = true := by
      cases ok with
      | true => rfl
      | false =>
        have F := hfit _ (List.getElem_mem hpos)
        exact (D.none _ ((hF _).2 F) (F.far (by omega))).elim
    subst hokt
    rw [if_pos rfl]
    have body : ∀ (k : Nat) (p : Int × Int), k < T.length → ∃ u ∈ T, u = gd T k ∧ iter (S := Int × Int) (B := Int × Int) (fun (x112, x113) =>
                if x113 ≤ t then
                  (idx T (↑k : Int)).bind fun x134 =>
                  (idx x134 x113).bind fun x148 =>
                  some (.inl (w64 (x112 + x148), w64 (x113 + 1)))
                else
                  esc (some (min p.1 x112, max p.2 x112))) big (0, f) = some (min p.1 (pre u (t + 1).toNat - pre u f.toNat), max p.2 (pre u (t + 1).toNat - pre u f.toNat)) := by
      intro k p hk'
      have hg := gd_at hk'
      have hmem : gd T k ∈ T := List.mem_of_getElem? hg
      refine ⟨gd T k, hmem, rfl, ?_⟩
      obtain ⟨ul, ud, _⟩ := (e3 _).1 hmem
      refine iter_to (m := (t + 1 - f).toNat) (fun i => (pre (gd T k) (f.toNat + i) - pre (gd T k) f.toNat, f + i)) (fun i hi => ?_) ?_ (by simp) (by omega)
      · have hlt : f.toNat + i < (gd T k).length := by omega
        have b1 := pre_bnd ud (f.toNat + i) (by omega)
        have b2 := pre_bnd ud f.toNat (by omega)
        have b3 := ud _ (List.getElem_mem hlt)
        have e : f + (i : Int) = ((f.toNat + i : Nat) : Int) := by omega
        simp only
        rw [if_pos (by omega), idx_nat, hg, Option.bind_some, e, idx_nat, List.getElem?_eq_getElem hlt, Option.bind_some, w64_in (by omega) (by omega), w64_in (by omega) (by omega)]
        congr 3
        · rw [show f.toNat + (i + 1) = f.toNat + i + 1 from rfl, pre_succ hlt]
          omega
        · omega
      · simp only
        rw [if_neg (by omega), show f.toNat + (t + 1 - f).toNat = (t + 1).toNat by omega]
        rfl
    obtain ⟨q, q1, q2⟩ := forN'_inv (S := Int × Int) (body := fun k82 (x80, x81) =>
              iter (fun (x112, x113) =>
                if x113 ≤ t then
                  (idx T (↑k82 : Int)).bind fun x134 =>
                  (idx x134 x113).bind fun x148 =>
                  some (.inl (w64 (x112 + x148), w64 (x113 + 1)))
                else
                  esc (some (min x80 x112, max x81 x112))) big (0, f)) (fun k p => (∀ j, j < k → p.1 ≤ pre (gd T j) (t + 1).toNat - pre (gd T j) f.toNat ∧ pre (gd T j) (t + 1).toNat - pre (gd T j) f.toNat ≤ p.2) ∧
        (p.1 = 100 ∨ ∃ j, j < k ∧ p.1 = pre (gd T j) (t + 1).toNat - pre (gd T j) f.toNat) ∧ (p.2 = 0 ∨ ∃ j, j < k ∧ p.2 = pre (gd T j) (t + 1).toNat - pre (gd T j) f.toNat)) T.length 0 (100, 0)
      ⟨fun j hj => by omega, .inl rfl, .inl rfl⟩
      (by
        intro i p _ hi ⟨p1, p2, p3⟩
        obtain ⟨u, _, hu, hit⟩ := body i p (by omega)
        subst hu
        refine ⟨_, hit, fun j hj => ?_, ?_, ?_⟩
        · by_cases e : j = i
          · subst e
            exact ⟨Int.min_le_right _ _, Int.le_max_right _ _⟩
          · have := p1 j (by omega)
            simp only
            omega
        · simp only
          by_cases c : p.1 ≤ pre (gd T i) (t + 1).toNat - pre (gd T i) f.toNat
          · rw [Int.min_eq_left c]
            rcases p2 with p2 | ⟨j, j1, j2⟩
            · exact .inl p2
            · exact .inr ⟨j, by omega, j2⟩
          · rw [Int.min_eq_right (by omega)]
            exact .inr ⟨i, by omega, rfl⟩
        · simp only
          by_cases c : pre (gd T i) (t + 1).toNat - pre (gd T i) f.toNat ≤ p.2
          · rw [Int.max_eq_left c]
            rcases p3 with p3 | ⟨j, j1, j2⟩
            · exact .inl p3
            · exact .inr ⟨j, by omega, j2⟩
          · rw [Int.max_eq_right (by omega)]
            exact .inr ⟨i, by omega, rfl⟩)
    rw [q1, Option.bind_some]
    obtain ⟨q2, q3, q4⟩ := q2
    rw [Nat.zero_add] at q2 q3 q4
    have hmem : ∀ j, j < T.length → gd T j ∈ T := fun j hj => List.mem_of_getElem? (gd_at hj)
    have hbd : ∀ j, j < T.length → 0 ≤ pre (gd T j) (t + 1).toNat - pre (gd T j) f.toNat ∧ pre (gd T j) (t + 1).toNat - pre (gd T j) f.toNat ≤ 72 := fun j hj => by
      obtain ⟨a, b, _⟩ := (e3 _).1 (hmem j hj)
      have m1 := pre_mono b (a := f.toNat) (t + 1).toNat (by omega) (by omega)
      have m2 := pre_bnd b (t + 1).toNat (by omega)
      have m3 := pre_bnd b f.toNat (by omega)
      omega
    have hup : ∀ j, j < T.length → pre (gd T j) (t + 1).toNat - pre (gd T j) f.toNat ≤ mx y f.toNat (t + 1).toNat ∧ -(pre (gd T j) (t + 1).toNat - pre (gd T j) f.toNat) ≤ mx y (t + 1).toNat f.toNat := fun j hj => by
      have F := hfit _ (hmem j hj)
      have a := D.fe _ ((hF _).2 F) (F.far (by omega)) f.toNat (t + 1).toNat (by omega) (by omega)
      have b := D.fe _ ((hF _).2 F) (F.far (by omega)) (t + 1).toNat f.toNat (by omega) (by omega)
      omega
    have hat : ∀ a, a ≤ n → ∃ j, j < T.length ∧ ∀ b, b ≤ n → pre (gd T j) b = mx y a b - mx y a 0 := fun a ha => by
      have F := (hF _).1 (D.pot hk ha)
      obtain ⟨u, u1, u2, u3, u4⟩ := truth_of_fit h4 F
      have hu := (e3 u).2 ⟨u1, u2, u3⟩
      obtain ⟨j, hj, e⟩ := List.getElem_of_mem hu
      refine ⟨j, hj, fun b hb => ?_⟩
      have : gd T j = u := by
        have := gd_at hj
        rw [List.getElem?_eq_getElem hj, e] at this
        exact (Option.some.inj this).symm
      rw [this]
      exact u4 b hb
    obtain ⟨j1, a1, a2⟩ := hat f.toNat (by omega)
    obtain ⟨j2, b1, b2⟩ := hat (t + 1).toNat (by omega)
    have c1 := a2 f.toNat (by omega)
    have c2 := a2 (t + 1).toNat (by omega)
    have c3 := b2 f.toNat (by omega)
    have c4 := b2 (t + 1).toNat (by omega)
    have d1 := D.dg rfl f.toNat (by omega)
    have d2 := D.dg rfl (t + 1).toNat (by omega)
    have r1 := q2 j1 a1
    have r2 := q2 j2 b1
    have r3 := hbd 0 hpos
    have r4 := q2 0 hpos
    have r5 := hbd j1 a1
    have r6 := hbd j2 b1
    have s1 : q.1 = -(mx y (t + 1).toNat f.toNat) := by
      rcases q3 with q3 | ⟨j, k1, k2⟩
      · omega
      · have := hup j k1
        omega
    have s2 : q.2 = mx y f.toNat (t + 1).toNat := by
      rcases q4 with q4 | ⟨j, k1, k2⟩
      · omega
      · have := hup j k1
        omega
    simp only [s1, s2]

theorem skied_good {n : Nat} {l : List T_target_Sheet} {y : Arr Int 81} {ok : Bool} {ks : List T_target_link} (hn : n ≤ 8) (hc : m_target_counted n l = some (y, if ok = true then 0 else 7)) (D : Dist n ks y ok) :
    m_target_Skied n l = some (if ok = true then ((List.range n).map fun k => ⟨-(mx y (k + 1) k), mx y k (k + 1)⟩, 0) else ([], 7)) := by
  unfold m_target_Skied
  rw [hc, Option.bind_some]
  cases ok with
  | false => rfl
  | true =>
    simp only [if_true]
    rw [forR'_list (by omega)]
    obtain ⟨r, g1, g2⟩ := forN'_inv (S := List T_api_Span) (body := fun k39 l35 =>
      (chk (↑(k39 + 1) : Int) 9).bind fun _ =>
      (chk (↑k39 : Int) 9).bind fun _ =>
      (app 16 l35 [(⟨w64 (-(y.get ((k39 + 1) * 9 + k39))), (y.get (k39 * 9 + (k39 + 1)))⟩ : T_api_Span)]).bind fun x75 =>
      some x75) (fun k r => r = (List.range k).map fun k => ⟨-(mx y (k + 1) k), mx y k (k + 1)⟩) n 0 [] rfl
      (by
        intro i r _ hi hr
        subst hr
        have b1 := D.lo (i + 1) i (by omega) (by omega)
        have b2 := D.hi (i + 1) i (by omega) (by omega)
        rw [chk_ok (by omega) (by omega), Option.bind_some, chk_ok (by omega) (by omega), Option.bind_some, app_ok (by simp only [List.length_map, List.length_range, List.length_cons, List.length_nil]; omega)]
        refine ⟨_, rfl, ?_⟩
        rw [List.range_succ, List.map_append]
        have : w64 (-(y.get ((i + 1) * 9 + i))) = -(mx y (i + 1) i) := w64_in (by show _ ≤ -(mx y (i + 1) i); omega) (by show -(mx y (i + 1) i) ≤ _; omega)
        rw [this]
        rfl)
    rw [g1, g2, Nat.zero_add]
    rfl
theorem skied_bad {n : Int} {l : List T_target_Sheet} (h : shErr n l ≠ 0) : m_target_Skied n l = some ([], shErr n l) := by
  obtain ⟨y, hc⟩ := counted_bad h
  unfold m_target_Skied
  rw [hc, Option.bind_some]
  simp only
  rw [if_neg h]

theorem eqSheet_eq {l : List T_target_Sheet} (h : l.length ≤ 1000) : m_klisterkit_Equal_target_Sheet l l = some true := by
  have := loop_equal (l := l) (m := l) (by omega)
  unfold m_klisterkit_Equal_target_Sheet
  rw [this]
  simp

theorem law_Sheets (n : Int) (l : List T_target_Sheet) (f t : Int) : m_klisterlaw03_TargetSheets n l f t = some true := by
  unfold m_klisterlaw03_TargetSheets
  have e0 : (if 3 < n then if n ≤ 8 then some true else some (decide (25 < (l.length : Int))) else some (decide (25 < (l.length : Int)))) = some (decide ((3 < n ∧ n ≤ 8) ∨ 25 < (l.length : Int))) := by
    by_cases h1 : 3 < n
    · by_cases h2 : n ≤ 8
      · simp [h1, h2]
      · simp [h1, h2]
    · simp [h1]
  rw [e0, Option.bind_some]
  by_cases h : (3 < n ∧ n ≤ 8) ∨ 25 < (l.length : Int)
  · rw [if_pos (decide_eq_true h)]
    rfl
  rw [if_neg (by simpa using h)]
  have hl : l.length ≤ 25 := by omega
  have e1 : m_klisterkit_Clone_target_Sheet l = some l := by
    unfold m_klisterkit_Clone_target_Sheet
    rw [app_ok (by simp only [List.length_nil]; omega)]
    rfl
  rw [e1, Option.bind_some, sheets_eq (by omega), Option.bind_some, refCheck_eq, Option.bind_some, check_eq, Option.bind_some, if_pos rfl]
  by_cases hz : shErr n l = 0
  · obtain ⟨n1, n2, n3, n4⟩ := shErr_ok hz
    obtain ⟨m, rfl⟩ : ∃ m : Nat, n = m := ⟨n.toNat, by omega⟩
    obtain ⟨y, ok, ks, c1, c2, c3, c4⟩ := counted_good hz
    have hm : m ≤ 3 := by omega
    have b1 := between_prog (by omega) c1 c2 f t
    have b2 := between_ref hm hz f t c2 c3 c4
    have s1 := skied_good (by omega) c1 c2
    have b3 : ∀ k : Nat, k < m → m_klisterref03_Between (m : Int) (l.map refSheet) (k : Int) (k : Int) = some (if ok = true then (⟨-(mx y (k + 1) k), mx y k (k + 1)⟩, 0) else (⟨0, 0⟩, 7)) := fun k hk => by
      rw [between_ref hm hz k k c2 c3 c4, if_pos ⟨by omega, by omega, by omega⟩, show ((k : Int) + 1).toNat = k + 1 by omega, Int.toNat_natCast]
    generalize (if 0 ≤ f ∧ f ≤ t ∧ t < m then (if ok = true then ((⟨-(mx y (t + 1).toNat f.toNat), mx y f.toNat (t + 1).toNat⟩ : T_api_Span), (0 : Int)) else (⟨0, 0⟩, 7)) else (⟨0, 0⟩, 1)) = B at b1 b2
    obtain ⟨B1, B2⟩ := B
    rw [b1, Option.bind_some]
    simp only
    rw [b2, Option.bind_some]
    simp only [if_true]
    rw [s1, Option.bind_some]
    cases ok with
    | true =>
      simp only [if_true] at b3 ⊢
      rw [if_pos hz]
      have hlen : ((List.range m).map fun k => (⟨-(mx y (k + 1) k), mx y k (k + 1)⟩ : T_api_Span)).length = m := by simp
      rw [hlen, forR_list (by omega)]
      rcases forN_inv (S := Unit) (B := Bool) (body := fun k170 (_ : Unit) =>
              (m_klisterref03_Between (m : Int) (l.map refSheet) (↑k170 : Int) (↑k170 : Int)).bind fun x =>
              if 0 = x.2 then
                  (chk (↑k170 : Int) m).bind fun _ =>
                    if (gd ((List.range m).map fun k => (⟨-(mx y (k + 1) k), mx y k (k + 1)⟩ : T_api_Span)) k170) = x.1 then
                      some (.inl ())
                    else
                      esc (some false)
              else
                esc (some false)) (fun _ _ => True) (fun _ => False) m 0 () trivial
        (by
          intro i _ _ hi _
          have hi' : i < m := by omega
          refine .inl ⟨(), ?_, trivial⟩
          rw [b3 i hi', Option.bind_some, if_pos rfl, chk_ok (by omega) (by omega), Option.bind_some, if_pos]
          have := gd_at (xs := (List.range m).map fun k => (⟨-(mx y (k + 1) k), mx y k (k + 1)⟩ : T_api_Span)) (k := i) (by rw [hlen]; exact hi')
          rw [List.getElem?_map, List.getElem?_range hi'] at this
          exact (Option.some.inj this).symm) with ⟨_, h1, _⟩ | ⟨_, _, h2⟩
      · simp only [if_true]
        rw [h1, jn_some_inl, eqSheet_eq (by omega)]
        rfl
      · exact h2.elim
    | false =>
      simp only [Bool.false_eq_true, if_false] at b3 ⊢
      rw [if_pos hz, forR_list (by omega)]
      rcases forN_inv (S := Unit) (B := Bool) (body := fun k170 (_ : Unit) =>
              (m_klisterref03_Between (m : Int) (l.map refSheet) (↑k170 : Int) (↑k170 : Int)).bind fun x =>
              if 7 = x.2 then some (.inl ()) else esc (some false)) (fun _ _ => True) (fun _ => False) m 0 () trivial
        (by
          intro i _ _ hi _
          refine .inl ⟨(), ?_, trivial⟩
          rw [b3 i (by omega), Option.bind_some, if_pos rfl]) with ⟨_, h1, _⟩ | ⟨_, _, h2⟩
      · have e7 : ¬ ((7 : Int) = 0) := by decide
        simp only [e7, if_false]
        rw [h1, jn_some_inl, List.length_nil, if_pos (show ((0 : Nat) : Int) = 0 from rfl), eqSheet_eq (by omega)]
        rfl
      · exact h2.elim
  · rw [between_bad hz, Option.bind_some]
    simp only
    rw [refBetween_bad hz, Option.bind_some]
    simp only [if_true]
    rw [skied_bad hz, Option.bind_some]
    simp only
    rw [if_neg hz, if_pos trivial, if_pos (by rfl), eqSheet_eq (by omega)]
    rfl
end Go.Proofs.Ytnllmignponhdaa
