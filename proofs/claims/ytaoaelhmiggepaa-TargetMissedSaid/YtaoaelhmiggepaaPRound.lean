/- Where numbers that links allow exist, 'target.round' finds nothing. -/
import Derived.Test.YtaoaelhmiggepaaPSheetK
import Derived.Test.YtaoaelhmiggepaaVN
namespace Go.Proofs.Ytaoaelhmiggepaa
open Go.KL

theorem get_set9 (y : Arr Int 9) {i k : Nat} (v : Int) (hi : i < 9) (hk : k < 9) : (y.set i v).get k = if k = i then v else y.get k := by
  unfold Arr.get Arr.set
  simp only [List.getD_eq_getElem?_getD, List.getElem?_set]
  have hl : y.l.length = 9 := y.h
  by_cases h : k = i
  · subst h
    rw [if_pos rfl, if_pos (by omega), if_pos rfl]
    rfl
  · rw [if_neg h, if_neg (fun e => h e.symm)]
theorem get_fill9 (v : Int) {k : Nat} (hk : k < 9) : (Arr.fill 9 v).get k = v := by
  unfold Arr.get Arr.fill
  rw [List.getD_eq_getElem?_getD, List.getElem?_replicate, if_pos hk]
  rfl

/-- The greatest numbers, none above 0, that links allow. -/
structure Most (n : Nat) (ks : List T_target_link) (δ : Nat → Int) : Prop where
  le : ∀ v, v ≤ n → δ v ≤ 0
  lo : ∀ v, v ≤ n → -1048576 ≤ δ v
  ok : Feas ks δ
  top : ∀ x, Feas ks x → (∀ v, v ≤ n → x v ≤ 0) → ∀ v, v ≤ n → x v ≤ δ v
/-- One pass over all links. -/
theorem pass {n : Nat} (hn : n ≤ 8) {ks : List T_target_link} (hk : ∀ k ∈ ks, lkOk n k) (hl : ks.length ≤ 1000) {δ : Nat → Int} (M : Most n ks δ) (a22 a23 : Arr Int 9) (h0 : ∀ v, v ≤ n → a23.get v ≤ 0) (hge : ∀ v, v ≤ n → δ v ≤ a23.get v) :
    ∃ by' low last, forR' 0 (↑ks.length : Int) (fun k62 (a59, a60, x61) =>
      ((idx ks (↑k62 : Int)).bind fun x91 =>
      (chk x91.from_ 9).bind fun _ =>
      (chk x91.to_ 9).bind fun _ =>
      (x91.count ()).bind fun x123 =>
      if (w64 ((a60.get x91.from_.toNat) + x123)) < (a60.get x91.to_.toNat) then
        (x91.count ()).bind fun x138 =>
        some ((a59.set x91.to_.toNat (↑k62 : Int)), (a60.set x91.to_.toNat (w64 ((a60.get x91.from_.toNat) + x138))), x91.to_)
      else
        some (a59, a60, x61)).bind fun (a91, a92, x93) => some (a91, a92, x93)) (a22, a23, -1) = some (by', low, last) ∧ (∀ v, v ≤ n → δ v ≤ low.get v) ∧ (∀ v, v ≤ n → low.get v ≤ a23.get v) ∧ (last < 0 ∨ ∃ v, v ≤ n ∧ low.get v < a23.get v) ∧
      ∀ k ∈ ks, ∀ w, k.count () = some w → a23.get k.from_.toNat = δ k.from_.toNat → δ k.to_.toNat = δ k.from_.toNat + w → low.get k.to_.toNat = δ k.to_.toNat := by
  rw [forR'_list (by omega)]
  obtain ⟨⟨b', low, last⟩, g1, g2, g3, g4, g5⟩ := forN'_inv (S := Arr Int 9 × Arr Int 9 × Int) (body := fun k62 (a59, a60, x61) =>
      ((idx ks (↑k62 : Int)).bind fun x91 =>
      (chk x91.from_ 9).bind fun _ =>
      (chk x91.to_ 9).bind fun _ =>
      (x91.count ()).bind fun x123 =>
      if (w64 ((a60.get x91.from_.toNat) + x123)) < (a60.get x91.to_.toNat) then
        (x91.count ()).bind fun x138 =>
        some ((a59.set x91.to_.toNat (↑k62 : Int)), (a60.set x91.to_.toNat (w64 ((a60.get x91.from_.toNat) + x138))), x91.to_)
      else
        some (a59, a60, x61)).bind fun (a91, a92, x93) => some (a91, a92, x93)) (fun i s => (∀ v, v ≤ n → δ v ≤ s.2.1.get v) ∧ (∀ v, v ≤ n → s.2.1.get v ≤ a23.get v) ∧ (s.2.2 < 0 ∨ ∃ v, v ≤ n ∧ s.2.1.get v < a23.get v) ∧
        ∀ k ∈ ks.take i, ∀ w, k.count () = some w → a23.get k.from_.toNat = δ k.from_.toNat → δ k.to_.toNat = δ k.from_.toNat + w → s.2.1.get k.to_.toNat = δ k.to_.toNat) ks.length 0 (a22, a23, -1)
    ⟨hge, fun v _ => Int.le_refl _, .inl (by show (-1 : Int) < 0; omega), fun k hk => by simp at hk⟩
    (by
      rintro i ⟨b, low, last⟩ _ hi ⟨q1, q2, q3, q4⟩
      simp only at q1 q2 q3 q4
      have hlt : i < ks.length := by omega
      have hm : ks[i] ∈ ks := List.getElem_mem hlt
      obtain ⟨f0, f1, t0, t1, w, hw, w0, w1⟩ := hk _ hm
      have e : ks.take (i + 1) = ks.take i ++ [ks[i]] := by rw [List.take_add_one, List.getElem?_eq_getElem hlt]; rfl
      have hok := M.ok _ hm w hw
      have c1 := q1 ks[i].from_.toNat (by omega)
      have c2 := q2 ks[i].from_.toNat (by omega)
      have c3 := q1 ks[i].to_.toNat (by omega)
      have c4 := q2 ks[i].to_.toNat (by omega)
      have c5 := h0 ks[i].from_.toNat (by omega)
      have c6 := M.lo ks[i].from_.toNat (by omega)
      have hw64 : w64 ((low.get ks[i].from_.toNat) + w) = low.get ks[i].from_.toNat + w := w64_in (by omega) (by omega)
      simp only
      rw [idx_nat, List.getElem?_eq_getElem hlt, Option.bind_some, chk_ok f0 (by omega), Option.bind_some, chk_ok t0 (by omega), Option.bind_some, hw, Option.bind_some, hw64]
      by_cases hc : low.get ks[i].from_.toNat + w < low.get ks[i].to_.toNat
      · rw [if_pos hc, Option.bind_some, hw64]
        have hg : ∀ v, v ≤ n → (low.set ks[i].to_.toNat (low.get ks[i].from_.toNat + w)).get v = if v = ks[i].to_.toNat then low.get ks[i].from_.toNat + w else low.get v := fun v hv => get_set9 _ _ (by omega) (by omega)
        refine ⟨_, rfl, fun v hv => ?_, fun v hv => ?_, .inr ⟨ks[i].to_.toNat, by omega, ?_⟩, fun k hk' w' hw' h1 h2 => ?_⟩
        · simp only
          rw [hg v hv]
          split
          · rename_i h; subst h; omega
          · exact q1 v hv
        · simp only
          rw [hg v hv]
          split
          · rename_i h; subst h; omega
          · exact q2 v hv
        · simp only
          rw [hg _ (by omega), if_pos rfl]
          omega
        · simp only
          rw [e] at hk'
          rcases List.mem_append.1 hk' with hk' | hk'
          · have old := q4 k hk' w' hw' h1 h2
            obtain ⟨_, _, s0, s1, _⟩ := hk k (List.mem_of_mem_take hk')
            rw [hg _ (by omega)]
            split
            · rename_i h
              rw [h] at old
              omega
            · exact old
          · have := List.mem_singleton.1 hk'
            subst this
            rw [hw] at hw'
            cases hw'
            rw [hg _ (by omega), if_pos rfl]
            omega
      · rw [if_neg hc]
        refine ⟨_, rfl, q1, q2, q3, fun k hk' w' hw' h1 h2 => ?_⟩
        rw [e] at hk'
        rcases List.mem_append.1 hk' with hk' | hk'
        · exact q4 k hk' w' hw' h1 h2
        · have := List.mem_singleton.1 hk'
          subst this
          rw [hw] at hw'
          cases hw'
          simp only
          omega)
  simp only at g2 g3 g4 g5
  rw [Nat.zero_add, List.take_length] at g5
  exact ⟨b', low, last, g1, g2, g3, g4, g5⟩

end Go.Proofs.Ytaoaelhmiggepaa
