/- Where numbers that links allow exist, 'target.round' finds nothing. -/
import Derived.Test.YtnllmignponhdaaPSheetK
import Derived.Test.YtnllmignponhdaaVN
namespace Go.Proofs.Ytnllmignponhdaa
open Go.KL

theorem get_set9 (y : Arr Int 9) {i k : Nat} (v : Int) (hi : i < 9) (hk : k < 9) : (y.set i v).get k = if k = i then v else y.get k := by
  unfold Arr.get Arr.set
  simp only [List.getD_eq_getElem?_getD, List.getElem?_set]
  have hl : y.l.length = 9 := y.h
  by_cases h : k = i
  · subst h
    rw [if_pos rfl, if_pos (by omega), if_pos rfl]
    rfl
  · rw [if_neg h, if_neg (fun e => h e.symm)]
theorem get_fill9 (v : Int) {k : Nat} (hk : k < 9) : (Arr.fill 9 v).get k = v := by
  unfold Arr.get Arr.fill
  rw [List.getD_eq_getElem?_getD, List.getElem?_replicate, if_pos hk]
  rfl

/-- The greatest numbers, none above 0, that links allow. -/
structure Most (n : Nat) (ks : List T_target_link) (δ : Nat → Int) : Prop where
  le : ∀ v, v ≤ n → δ v ≤ 0
  lo : ∀ v, v ≤ n → -1048576 ≤ δ v
  ok : Feas ks δ
  top : ∀ x, Feas ks x → (∀ v, v ≤ n → x v ≤ 0) → ∀ v, v ≤ n → x v ≤ δ v
theorem most_of {n : Nat} {ks : List T_target_link} {y : Arr Int 81} (D : Dist n ks y true) (hk : ∀ k ∈ ks, lkOk n k) (hf : ∀ x, Feas ks x → ∀ a b, a ≤ n → b ≤ n → x b - x a ≤ 1048576) : ∃ δ, Most n ks δ := by
  have ex : ∀ v, ∃ m : Int, (v ≤ n → m ≤ 0 ∧ (∀ u, u ≤ n → m ≤ mx y u v) ∧ (m = 0 ∨ ∃ u, u ≤ n ∧ m = mx y u v)) := by
    intro v
    have : ∀ j, j ≤ n + 1 → ∃ m : Int, m ≤ 0 ∧ (∀ u, u < j → m ≤ mx y u v) ∧ (m = 0 ∨ ∃ u, u ≤ n ∧ m = mx y u v) := by
      intro j
      induction j with
      | zero => intro _; exact ⟨0, by omega, fun u hu => by omega, .inl rfl⟩
      | succ j ih =>
        intro hj
        obtain ⟨m, m1, m2, m3⟩ := ih (by omega)
        by_cases c : m ≤ mx y j v
        · refine ⟨m, m1, fun u hu => ?_, m3⟩
          by_cases e : u = j
          · subst e; exact c
          · exact m2 u (by omega)
        · refine ⟨mx y j v, by omega, fun u hu => ?_, .inr ⟨j, by omega, rfl⟩⟩
          by_cases e : u = j
          · subst e; omega
          · have := m2 u (by omega); omega
    obtain ⟨m, m1, m2, m3⟩ := this (n + 1) (by omega)
    exact ⟨m, fun _ => ⟨m1, fun u hu => m2 u (by omega), m3⟩⟩
  obtain ⟨δ, sp⟩ := Classical.axiomOfChoice ex
  refine ⟨δ, ?_⟩
  have ok : Feas ks δ := by
    intro k hk' w hw
    obtain ⟨f0, f1, t0, t1, _⟩ := hk k hk'
    have hl := D.lk k hk' w hw
    obtain ⟨_, a2, _⟩ := sp k.to_.toNat (by omega)
    obtain ⟨_, _, b3⟩ := sp k.from_.toNat (by omega)
    rcases b3 with b3 | ⟨u, hu, b3⟩
    · have := a2 k.from_.toNat (by omega)
      omega
    · have := a2 u hu
      have := D.tri rfl u k.to_.toNat k.from_.toNat hu (by omega) (by omega)
      omega
  refine ⟨fun v hv => (sp v hv).1, fun v hv => ?_, ok, fun x hx h0 v hv => ?_⟩
  · rcases (sp v hv).2.2 with h | ⟨u, hu, h⟩
    · omega
    · have := hf _ (D.pot hk hv) v u hv hu
      have := D.dg rfl v hv
      have hh := hf _ (D.pot hk hu) v u hv hu
      have := D.dg rfl u hu
      have : mx y u u - mx y u v ≤ 1048576 := hh
      omega
  · rcases (sp v hv).2.2 with h | ⟨u, hu, h⟩
    · have := h0 v hv; omega
    · have := D.fe x hx (hf x hx) u v hu hv
      have := h0 u hu
      omega

/-- Some place that is not as low as it can be is so behind the next link. -/
theorem Most.tight {n : Nat} {ks : List T_target_link} {δ : Nat → Int} (M : Most n ks δ) (hk : ∀ k ∈ ks, lkOk n k) (low : Nat → Int) (h0 : ∀ v, v ≤ n → low v ≤ 0) (hT : ∃ v, v ≤ n ∧ δ v < low v) (hge : ∀ v, v ≤ n → δ v ≤ low v) :
    ∃ k ∈ ks, ∃ w, k.count () = some w ∧ low k.from_.toNat = δ k.from_.toNat ∧ δ k.to_.toNat < low k.to_.toNat ∧ δ k.to_.toNat = δ k.from_.toNat + w := by
  rcases Classical.em (∃ k ∈ ks, ∃ w, k.count () = some w ∧ low k.from_.toNat = δ k.from_.toNat ∧ δ k.to_.toNat < low k.to_.toNat ∧ δ k.to_.toNat = δ k.from_.toNat + w) with h | h
  · exact h
  · exfalso
    obtain ⟨v, hv, hlt⟩ := hT
    have hx : Feas ks (fun u => if δ u < low u then δ u + 1 else δ u) := by
      intro k hk' w hw
      obtain ⟨f0, f1, t0, t1, _⟩ := hk k hk'
      have a := M.ok k hk' w hw
      have b := hge k.from_.toNat (by omega)
      have c := hge k.to_.toNat (by omega)
      simp only
      by_cases e1 : δ k.to_.toNat < low k.to_.toNat
      · by_cases e2 : δ k.from_.toNat < low k.from_.toNat
        · rw [if_pos e1, if_pos e2]; omega
        · rw [if_pos e1, if_neg e2]
          by_cases e3 : δ k.to_.toNat = δ k.from_.toNat + w
          · exact absurd ⟨k, hk', w, hw, by omega, e1, e3⟩ h
          · omega
      · rw [if_neg e1]
        split <;> omega
    have := M.top _ hx (fun u hu => by
      have := M.le u hu
      have := h0 u hu
      show (if δ u < low u then δ u + 1 else δ u) ≤ 0
      split <;> omega) v hv
    have this : (if δ v < low v then δ v + 1 else δ v) ≤ δ v := this
    rw [if_pos hlt] at this
    omega

theorem count_lt (p q : Nat → Bool) (hpq : ∀ v, p v = true → q v = true) : ∀ (l : List Nat), (∃ v ∈ l, p v = false ∧ q v = true) → l.countP p < l.countP q
  | [], ⟨v, h, _⟩ => by cases h
  | a :: l, ⟨v, h, hp, hq⟩ => by
    have mono : ∀ l : List Nat, l.countP p ≤ l.countP q := fun l => List.countP_mono_left fun v _ h => hpq v h
    rw [List.countP_cons, List.countP_cons]
    rcases List.mem_cons.1 h with rfl | h
    · have := mono l
      simp only [hp, hq, if_true, Bool.false_eq_true, if_false]
      omega
    · have := count_lt p q hpq l ⟨v, h, hp, hq⟩
      have : (if p a = true then 1 else 0) ≤ (if q a = true then 1 else 0) := by
        cases e : p a with
        | true => rw [hpq a e]; simp
        | false => simp
      omega

/-- One pass over all links. -/
theorem pass {n : Nat} (hn : n ≤ 8) {ks : List T_target_link} (hk : ∀ k ∈ ks, lkOk n k) (hl : ks.length ≤ 1000) {δ : Nat → Int} (M : Most n ks δ) (a22 a23 : Arr Int 9) (h0 : ∀ v, v ≤ n → a23.get v ≤ 0) (hge : ∀ v, v ≤ n → δ v ≤ a23.get v) :
    ∃ by' low last, forR' 0 (↑ks.length : Int) (fun k62 (a59, a60, x61) =>
      ((idx ks (↑k62 : Int)).bind fun x91 =>
      (chk x91.from_ 9).bind fun _ =>
      (chk x91.to_ 9).bind fun _ =>
      (x91.count ()).bind fun x123 =>
      if (w64 ((a60.get x91.from_.toNat) + x123)) < (a60.get x91.to_.toNat) then
        (x91.count ()).bind fun x138 =>
        some ((a59.set x91.to_.toNat (↑k62 : Int)), (a60.set x91.to_.toNat (w64 ((a60.get x91.from_.toNat) + x138))), x91.to_)
      else
        some (a59, a60, x61)).bind fun (a91, a92, x93) => some (a91, a92, x93)) (a22, a23, -1) = some (by', low, last) ∧ (∀ v, v ≤ n → δ v ≤ low.get v) ∧ (∀ v, v ≤ n → low.get v ≤ a23.get v) ∧ (last < 0 ∨ ∃ v, v ≤ n ∧ low.get v < a23.get v) ∧
      ∀ k ∈ ks, ∀ w, k.count () = some w → a23.get k.from_.toNat = δ k.from_.toNat → δ k.to_.toNat = δ k.from_.toNat + w → low.get k.to_.toNat = δ k.to_.toNat := by
  rw [forR'_list (by omega)]
  obtain ⟨⟨b', low, last⟩, g1, g2, g3, g4, g5⟩ := forN'_inv (S := Arr Int 9 × Arr Int 9 × Int) (body := fun k62 (a59, a60, x61) =>
      ((idx ks (↑k62 : Int)).bind fun x91 =>
      (chk x91.from_ 9).bind fun _ =>
      (chk x91.to_ 9).bind fun _ =>
      (x91.count ()).bind fun x123 =>
      if (w64 ((a60.get x91.from_.toNat) + x123)) < (a60.get x91.to_.toNat) then
        (x91.count ()).bind fun x138 =>
        some ((a59.set x91.to_.toNat (↑k62 : Int)), (a60.set x91.to_.toNat (w64 ((a60.get x91.from_.toNat) + x138))), x91.to_)
      else
        some (a59, a60, x61)).bind fun (a91, a92, x93) => some (a91, a92, x93)) (fun i s => (∀ v, v ≤ n → δ v ≤ s.2.1.get v) ∧ (∀ v, v ≤ n → s.2.1.get v ≤ a23.get v) ∧ (s.2.2 < 0 ∨ ∃ v, v ≤ n ∧ s.2.1.get v < a23.get v) ∧
        ∀ k ∈ ks.take i, ∀ w, k.count () = some w → a23.get k.from_.toNat = δ k.from_.toNat → δ k.to_.toNat = δ k.from_.toNat + w → s.2.1.get k.to_.toNat = δ k.to_.toNat) ks.length 0 (a22, a23, -1)
    ⟨hge, fun v _ => Int.le_refl _, .inl (by show (-1 : Int) < 0; omega), fun k hk => by simp at hk⟩
    (by
      rintro i ⟨b, low, last⟩ _ hi ⟨q1, q2, q3, q4⟩
      simp only at q1 q2 q3 q4
      have hlt : i < ks.length := by omega
      have hm : ks[i] ∈ ks := List.getElem_mem hlt
      obtain ⟨f0, f1, t0, t1, w, hw, w0, w1⟩ := hk _ hm
      have e : ks.take (i + 1) = ks.take i ++ [ks[i]] := by rw [List.take_add_one, List.getElem?_eq_getElem hlt]; rfl
      have hok := M.ok _ hm w hw
      have c1 := q1 ks[i].from_.toNat (by omega)
      have c2 := q2 ks[i].from_.toNat (by omega)
      have c3 := q1 ks[i].to_.toNat (by omega)
      have c4 := q2 ks[i].to_.toNat (by omega)
      have c5 := h0 ks[i].from_.toNat (by omega)
      have c6 := M.lo ks[i].from_.toNat (by omega)
      have hw64 : w64 ((low.get ks[i].from_.toNat) + w) = low.get ks[i].from_.toNat + w := w64_in (by omega) (by omega)
      simp only
      rw [idx_nat, List.getElem?_eq_getElem hlt, Option.bind_some, chk_ok f0 (by omega), Option.bind_some, chk_ok t0 (by omega), Option.bind_some, hw, Option.bind_some, hw64]
      by_cases hc : low.get ks[i].from_.toNat + w < low.get ks[i].to_.toNat
      · rw [if_pos hc, Option.bind_some, hw64]
        have hg : ∀ v, v ≤ n → (low.set ks[i].to_.toNat (low.get ks[i].from_.toNat + w)).get v = if v = ks[i].to_.toNat then low.get ks[i].from_.toNat + w else low.get v := fun v hv => get_set9 _ _ (by omega) (by omega)
        refine ⟨_, rfl, fun v hv => ?_, fun v hv => ?_, .inr ⟨ks[i].to_.toNat, by omega, ?_⟩, fun k hk' w' hw' h1 h2 => ?_⟩
        · simp only
          rw [hg v hv]
          split
          · rename_i h; subst h; omega
          · exact q1 v hv
        · simp only
          rw [hg v hv]
          split
          · rename_i h; subst h; omega
          · exact q2 v hv
        · simp only
          rw [hg _ (by omega), if_pos rfl]
          omega
        · simp only
          rw [e] at hk'
          rcases List.mem_append.1 hk' with hk' | hk'
          · have old := q4 k hk' w' hw' h1 h2
            obtain ⟨_, _, s0, s1, _⟩ := hk k (List.mem_of_mem_take hk')
            rw [hg _ (by omega)]
            split
            · rename_i h
              rw [h] at old
              omega
            · exact old
          · have := List.mem_singleton.1 hk'
            subst this
            rw [hw] at hw'
            cases hw'
            rw [hg _ (by omega), if_pos rfl]
            omega
      · rw [if_neg hc]
        refine ⟨_, rfl, q1, q2, q3, fun k hk' w' hw' h1 h2 => ?_⟩
        rw [e] at hk'
        rcases List.mem_append.1 hk' with hk' | hk'
        · exact q4 k hk' w' hw' h1 h2
        · have := List.mem_singleton.1 hk'
          subst this
          rw [hw] at hw'
          cases hw'
          simp only
          omega)
  simp only at g2 g3 g4 g5
  rw [Nat.zero_add, List.take_length] at g5
  exact ⟨b', low, last, g1, g2, g3, g4, g5⟩

theorem round_none {n : Nat} (hn : n ≤ 8) {ks : List T_target_link} (hk : ∀ k ∈ ks, lkOk n k) (hl : ks.length ≤ 1000) {δ : Nat → Int} (M : Most n ks δ) : m_target_round n ks = some [] := by
  unfold m_target_round
  have hw : w64 ((n : Int) + 2) = ↑(n + 2) := by rw [w64_in (by omega) (by omega)]; rfl
  rw [hw, forR_list (by omega)]
  rcases forN_inv (S := Arr Int 9 × Arr Int 9 × Int) (B := List T_target_Step) (body := fun k25 (a22, a23, x24) =>
    (forR' 0 (↑ks.length : Int) (fun k62 (a59, a60, x61) =>
      ((idx ks (↑k62 : Int)).bind fun x91 =>
      (chk x91.from_ 9).bind fun _ =>
      (chk x91.to_ 9).bind fun _ =>
      (x91.count ()).bind fun x123 =>
      if (w64 ((a60.get x91.from_.toNat) + x123)) < (a60.get x91.to_.toNat) then
        (x91.count ()).bind fun x138 =>
        some ((a59.set x91.to_.toNat (↑k62 : Int)), (a60.set x91.to_.toNat (w64 ((a60.get x91.from_.toNat) + x138))), x91.to_)
      else
        some (a59, a60, x61)).bind fun (a91, a92, x93) => some (a91, a92, x93)) (a22, a23, -1)).bind fun (y67, y68, y69) =>
    if y69 < 0 then
      esc (some [])
    else
      some (.inl (y67, y68, y69))) (fun i s => (∀ v, v ≤ n → s.2.1.get v ≤ 0) ∧ (∀ v, v ≤ n → δ v ≤ s.2.1.get v) ∧ i ≤ (List.range (n + 1)).countP fun v => decide (s.2.1.get v = δ v)) (fun b => b = []) (n + 2) 0 (Arr.fill 9 0, Arr.fill 9 0, -1)
    ⟨fun v hv => by simp only; rw [get_fill9 _ (by omega)]; omega, fun v hv => by simp only; rw [get_fill9 _ (by omega)]; exact M.le v hv, Nat.zero_le _⟩
    (by
      rintro i ⟨b, low, last⟩ _ hi ⟨q1, q2, q3⟩
      simp only at q1 q2 q3
      obtain ⟨b', low', last', g1, g2, g3, g4, g5⟩ := pass hn hk hl M b low q1 q2
      simp only
      rw [g1, Option.bind_some]
      simp only
      by_cases hc : last' < 0
      · rw [if_pos hc]
        exact .inr ⟨[], rfl, rfl⟩
      · rw [if_neg hc]
        refine .inl ⟨_, rfl, fun v hv => Int.le_trans (g3 v hv) (q1 v hv), g2, ?_⟩
        rcases g4 with g4 | ⟨v, hv, g4⟩
        · omega
        · obtain ⟨k, hk', w, hw', k1, k2, k3⟩ := M.tight hk (fun u => low.get u) q1 ⟨v, hv, by have := g2 v hv; omega⟩ q2
          obtain ⟨f0, f1, t0, t1, _⟩ := hk k hk'
          have h5 := g5 k hk' w hw' k1 k3
          have := count_lt (fun v => decide (low.get v = δ v)) (fun v => decide (low'.get v = δ v) || !decide (v ≤ n)) (fun u hu => by
            have hu' := of_decide_eq_true hu
            by_cases hun : u ≤ n
            · have := g2 u hun
              have := g3 u hun
              simp only [Bool.or_eq_true, decide_eq_true_eq]
              exact .inl (by omega)
            · simp [hun]) (List.range (n + 1)) ⟨k.to_.toNat, List.mem_range.2 (by omega), decide_eq_false (by omega), by simp [h5]⟩
          have e : (List.range (n + 1)).countP (fun v => decide (low'.get v = δ v) || !decide (v ≤ n)) = (List.range (n + 1)).countP (fun v => decide (low'.get v = δ v)) := by
            apply List.countP_congr
            intro u hu
            have : u ≤ n := by have := List.mem_range.1 hu; omega
            simp [this]
          simp only
          omega) with ⟨s, g1, _, _, g3⟩ | ⟨b, g1, rfl⟩
  · have := List.countP_le_length (p := fun v => decide (s.2.1.get v = δ v)) (l := List.range (n + 1))
    rw [List.length_range] at this
    omega
  · rw [g1]
    rfl
end Go.Proofs.Ytnllmignponhdaa
