/- The plain law of TargetDone. -/
import Derived.Test.YtnllmignponhdaaPRound
import Derived.Test.YtnllmignponhdaaPSheetL
import Derived.Test.YtnllmignponhdaaPWideB
namespace Go.Proofs.Ytnllmignponhdaa
open Go.KL

theorem has_is (s : T_api_Span) (k : Int) : m_klisterlaw03_has s k = some (decide (s.Lo ≤ k ∧ k ≤ s.Hi)) := by
  unfold m_klisterlaw03_has
  by_cases h : s.Lo ≤ k <;> simp [h]

theorem due_ok {n : Nat} {l : List T_target_Sheet} {owed : List Int} (h : shErr n l = 0) (ho : owed.length = n) (hw : ∀ k ∈ owed, 0 ≤ k ∧ k ≤ 5) : m_target_due owed l = some 0 := by
  obtain ⟨h1, h2, h3, _⟩ := shErr_ok h
  unfold m_target_due
  rw [ho, within_is, Option.bind_some, if_pos (decide_eq_true ⟨h1, h2⟩), allInt_eq (p := fun k => decide (0 ≤ k ∧ k ≤ 5)) (fun a => by unfold m_target_due_1; rw [within_is]; rfl) (by omega), Option.bind_some,
    if_pos (List.all_eq_true.2 fun k hk => decide_eq_true (hw k hk)), check_eq, h]
  rfl

/-- Where numbers exist that sheets, and what is owed, allow, no round shows too few. -/
theorem Round_none {n : Nat} {l : List T_target_Sheet} {owed : List Int} (h : shErr n l = 0) (ho : owed.length = n) (hw : ∀ k ∈ owed, 0 ≤ k ∧ k ≤ 5) (hx : ∃ x, Fit n l owed x) : m_target_Round owed l = some ([], 6) := by
  obtain ⟨h1, h2, h3, h4'⟩ := shErr_ok h
  have h4 : ∀ s ∈ l, okSheet n s := fun s hs => by have := h4' s hs; rwa [Int.toNat_natCast] at this
  have one : ∀ o : List Int, o.length ≤ n → (∀ k ∈ o, 0 ≤ k ∧ k ≤ 5) → (∃ x, Fit n l o x) → ∃ ks, m_target_links n l o = some ks ∧ m_target_round n ks = some [] := by
    intro o o1 o2 ⟨x, F⟩
    obtain ⟨ks, g1, g2, g3, g4⟩ := links_eq (n := n) (by omega) h3 h4 o1 o2
    obtain ⟨y, ok, d1, d2⟩ := dist_eq (n := n) (by omega) g2 g3
    have hf : ∀ x, Feas ks x → ∀ a b, a ≤ n → b ≤ n → x b - x a ≤ 1048576 := fun x hx => ((g4 x).1 hx).far (by omega)
    cases ok with
    | false => exact (d2.none _ ((g4 _).2 F) (F.far (by omega))).elim
    | true =>
      obtain ⟨δ, M⟩ := most_of d2 g2 hf
      exact ⟨ks, g1, round_none (by omega) g2 g3 M⟩
  obtain ⟨x, F⟩ := hx
  obtain ⟨k1, a1, a2⟩ := one [] (by simp) (fun k hk => by cases hk) ⟨x, F.sh, F.bo, fun b k h => by simp at h⟩
  obtain ⟨k2, b1, b2⟩ := one owed (by omega) hw ⟨x, F⟩
  unfold m_target_Round
  rw [due_ok h ho hw, Option.bind_some, if_pos rfl, ho, a1, Option.bind_some, a2, Option.bind_some, if_pos rfl, b1, Option.bind_some, b2, Option.bind_some, if_pos rfl]

/-- Between both ends of a span each number is reached. -/
theorem fit_mid {n : Nat} {l : List T_target_Sheet} {f t : Nat} {x y : Nat → Int} {k : Int} (hs : ∀ s ∈ l, okSheet n s) (X : Fit n l [] x) (Y : Fit n l [] y) (hx : k ≤ x t - x f) (hy : y t - y f ≤ k) : ∃ z, Fit n l [] z ∧ z t - z f = k := by
  refine ⟨fun v => min (x v - x f) (k + (y v - y t)), ⟨fun s h => ?_, fun b hb => ?_, fun b k h => by simp at h⟩, ?_⟩
  · have := X.sh s h
    have := Y.sh s h
    first | omega | (simp only; omega)
  · have := X.bo b hb
    have := Y.bo b hb
    first | omega | (simp only; omega)
  · first | omega | (simp only; omega)

theorem Few_false {n : Nat} {l : List T_target_Sheet} {owed : List Int} (h : shErr n l = 0) (ho : owed.length = n) (hw : ∀ k ∈ owed, 0 ≤ k ∧ k ≤ 5) (hx : ∃ x, Fit n l owed x) : m_target_Few owed l = some (false, 0) := by
  obtain ⟨b, g1, g2⟩ := few_eq h ho hw
  rw [g1, g2.2 hx]

theorem Due_none {l : List T_target_Sheet} {owed : List Int} (h : m_target_Few owed l = some (false, 0)) : m_target_Due [owed, owed] [l, l] = some ([], 0) := by
  unfold m_target_Due
  rw [if_neg (by simp), if_pos (by rfl)]
  have e : forR (S := List Int) (B := List Int × Int) 0 (↑([owed, owed] : List (List Int)).length : Int) (fun k25 l21 =>
        (idx [owed, owed] (↑k25 : Int)).bind fun x50 =>
        (idx [l, l] (↑k25 : Int)).bind fun x63 =>
        (m_target_Few x50 x63).bind fun (x76, x77) =>
        if x77 = 0 then
          if x76 = true then
            (app 8 l21 [(↑k25 : Int)]).bind fun x96 =>
            some (.inl x96)
          else
            some (.inl l21)
        else
          esc (some ([], x77))) [] = some (.inl []) := by
    rw [forR_list (by simp)]
    show forN _ 2 0 [] = _
    simp only [forN, idx_nat, List.getElem?_cons_zero, List.getElem?_cons_succ, Option.bind_some, h, if_true, Bool.false_eq_true, if_false]
  rw [e]
  rfl
theorem Fit.gap {n : Nat} {l : List T_target_Sheet} {o : List Int} {x : Nat → Int} (F : Fit n l o x) {a : Nat} : ∀ b, a ≤ b → b ≤ n → 0 ≤ x b - x a ∧ x b - x a ≤ 9 * ((b : Int) - a)
  | 0, h, _ => by rw [show a = 0 by omega]; omega
  | b + 1, h, hb => by
    by_cases e : a = b + 1
    · subst e; omega
    · have := F.gap (a := a) b (by omega) (by omega)
      have := F.bo b (by omega)
      omega
theorem sum_cut {l : List Int} (hr : ∀ r ∈ l, 0 ≤ r ∧ r ≤ 9) (hl : l.length ≤ 1000) {f t : Nat} (hft : f ≤ t) (ht : t ≤ l.length) :
    forR' 0 (↑((l.drop f).take (t - f)).length : Int) (fun k289 x288 =>
          (idx ((l.drop f).take (t - f)) (↑k289 : Int)).bind fun x317 =>
          some (w64 (x288 + x317))) 0 = some (pre l t - pre l f) := by
  have hcl : ((l.drop f).take (t - f)).length = t - f := by
    rw [List.length_take, List.length_drop]; omega
  rw [forR'_list (by omega)]
  obtain ⟨z, z1, z2⟩ := forN'_inv (S := Int) (body := fun k289 x288 =>
    (idx ((l.drop f).take (t - f)) (↑k289 : Int)).bind fun x317 =>
    some (w64 (x288 + x317))) (fun k z => z = pre ((l.drop f).take (t - f)) k) ((l.drop f).take (t - f)).length 0 0 (by rw [pre_zero])
    (by
      intro k z _ hk hz
      subst hz
      have hk' : k < ((l.drop f).take (t - f)).length := by omega
      have hin : ∀ r ∈ (l.drop f).take (t - f), 0 ≤ r ∧ r ≤ 9 := fun r h => hr r (List.mem_of_mem_drop (List.mem_of_mem_take h))
      have := pre_bnd hin k (by omega)
      have := hin _ (List.getElem_mem hk')
      rw [idx_nat, List.getElem?_eq_getElem hk', Option.bind_some]
      refine ⟨_, rfl, ?_⟩
      rw [pre_succ hk', w64_in (by omega) (by omega)])
  rw [z1, z2, Nat.zero_add]
  unfold pre
  rw [List.take_length, pre_cut (by omega)]
  rfl
/-- What 'target.Skied' says of sheets and one more, that asks for just a number. -/
theorem skied_with {n : Nat} {l : List T_target_Sheet} (h : shErr n l = 0) (hl : l.length ≤ 8) {f t : Nat} (hft : f ≤ t) (ht : t < n) {lo hi : Int} (hlo : Top n l (t + 1) f (-lo)) (hhi : Top n l f (t + 1) hi) {k : Int} (k0 : 0 ≤ k) (k1 : k ≤ 72) :
    ∃ S, m_target_Skied n (l ++ [⟨f, t, ⟨k, k⟩⟩]) = some (S, if lo ≤ k ∧ k ≤ hi then 0 else 7) := by
  obtain ⟨h1, h2, h3, h4'⟩ := shErr_ok h
  have h4 : ∀ s ∈ l, okSheet n s := fun s hs => by have := h4' s hs; rwa [Int.toNat_natCast] at this
  have z : shErr n (l ++ [⟨f, t, ⟨k, k⟩⟩]) = 0 := shErr_zero (by omega) (by omega) (by simp only [List.length_append, List.length_cons, List.length_nil]; omega) (fun s hs => by
    rcases List.mem_append.1 hs with hs | hs
    · exact h4 s hs
    · have := List.mem_singleton.1 hs
      subst this
      exact ⟨by show (0 : Int) ≤ f; omega, by show (f : Int) ≤ t; omega, by show (t : Int) < n; omega, k0, Int.le_refl _, k1⟩)
  have fit : ∀ x, Fit n (l ++ [⟨f, t, ⟨k, k⟩⟩]) [] x ↔ Fit n l [] x ∧ x (t + 1) - x f = k := by
    intro x
    constructor
    · intro F
      refine ⟨⟨fun s hs => F.sh s (List.mem_append_left _ hs), F.bo, F.ow⟩, ?_⟩
      have := F.sh ⟨f, t, ⟨k, k⟩⟩ (List.mem_append_right _ (List.mem_singleton.2 rfl))
      simp only [Int.toNat_natCast, show ((t : Int) + 1).toNat = t + 1 by omega] at this
      omega
    · intro ⟨F, e⟩
      refine ⟨fun s hs => ?_, F.bo, F.ow⟩
      rcases List.mem_append.1 hs with hs | hs
      · exact F.sh s hs
      · have := List.mem_singleton.1 hs
        subst this
        simp only [Int.toNat_natCast, show ((t : Int) + 1).toNat = t + 1 by omega]
        omega
  obtain ⟨y, ok, ks, c1, c2, c3, c4⟩ := counted_good z
  have hs := skied_good (by omega) c1 c2
  by_cases hk : lo ≤ k ∧ k ≤ hi
  · rw [if_pos hk]
    obtain ⟨x, X, ex⟩ := hhi.at_
    obtain ⟨w, Wf, ew⟩ := hlo.at_
    obtain ⟨v, V, ev⟩ := fit_mid (f := f) (t := t + 1) (k := k) h4 X Wf (by omega) (by omega)
    cases ok with
    | true => exact ⟨_, hs⟩
    | false =>
      have F := (fit v).2 ⟨V, ev⟩
      exact (c2.none _ ((c4 _).2 F) (F.far (by omega))).elim
  · rw [if_neg hk]
    cases ok with
    | false => exact ⟨_, hs⟩
    | true =>
      exfalso
      have F := (fit _).1 ((c4 _).1 (c2.pot c3 (a := 0) (by omega)))
      have := hhi.le _ F.1
      have := hlo.le _ F.1
      omega
end Go.Proofs.Ytnllmignponhdaa
