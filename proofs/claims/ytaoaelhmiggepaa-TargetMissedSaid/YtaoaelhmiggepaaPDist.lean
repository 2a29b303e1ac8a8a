/- The greatest sums from place to place that links allow: what 'target.distances' returns, in plain Lean. -/
import Derived.Test.YtaoaelhmiggepaaMod
import Derived.Test.YtaoaelhmiggepaaVL
namespace Go.Proofs.Ytaoaelhmiggepaa
open Go.KL

def mx (y : Arr Int 81) (a b : Nat) : Int := y.get (a * 9 + b)
theorem mx_set (y : Arr Int 81) {i j a b : Nat} (v : Int) (hi : i < 9) (hj : j < 9) (_ha : a < 9) (hb : b < 9) : mx (y.set (i * 9 + j) v) a b = if a = i ∧ b = j then v else mx y a b := by
  unfold mx Arr.get Arr.set
  simp only [List.getD_eq_getElem?_getD, List.getElem?_set]
  have hl : y.l.length = 81 := y.h
  by_cases h : a = i ∧ b = j
  · obtain ⟨rfl, rfl⟩ := h
    rw [if_pos rfl, if_pos (by omega), if_pos ⟨rfl, rfl⟩]
    rfl
  · rw [if_neg h]
    by_cases h2 : i * 9 + j = a * 9 + b
    · exact absurd ⟨by omega, by omega⟩ h
    · rw [if_neg h2]
theorem mx_fill (v : Int) {a b : Nat} (ha : a < 9) (hb : b < 9) : mx (Arr.fill 81 v) a b = v := by
  unfold mx Arr.get Arr.fill
  rw [List.getD_eq_getElem?_getD, List.getElem?_replicate, if_pos (by omega)]
  rfl
theorem forR'_to {S : Type} {body : Nat → S → Option S} {n : Nat} {h : Int} {s : S} (hn : h = n) (hb : n ≤ 9223372036854775807) : forR' 0 h body s = forN' body n 0 s := by
  subst hn; exact forR'_list hb
/-- A link as it is used: a place, a place, a number. -/
def lkOk (n : Nat) (k : T_target_link) : Prop := 0 ≤ k.from_ ∧ k.from_ ≤ n ∧ 0 ≤ k.to_ ∧ k.to_ ≤ n ∧ ∃ w, k.count () = some w ∧ -100 ≤ w ∧ w ≤ 100
/-- What links ask of numbers at places. -/
def Feas (ks : List T_target_link) (x : Nat → Int) : Prop := ∀ k ∈ ks, ∀ w, k.count () = some w → x k.to_.toNat - x k.from_.toNat ≤ w

/-- The state while links are read. -/
structure Lnk (n : Nat) (ks : List T_target_link) (y : Arr Int 81) : Prop where
  lo : ∀ a b, a < 9 → b < 9 → -100 ≤ mx y a b
  hi : ∀ a b, a < 9 → b < 9 → mx y a b ≤ 1048576
  dg : ∀ a, a < 9 → mx y a a ≤ 0
  lk : ∀ k ∈ ks, ∀ w, k.count () = some w → mx y k.from_.toNat k.to_.toNat ≤ w
  fe : ∀ x : Nat → Int, Feas ks x → (∀ a b, a ≤ n → b ≤ n → x b - x a ≤ 1048576) → ∀ a b, a ≤ n → b ≤ n → x b - x a ≤ mx y a b

theorem dist_start : ∃ y : Arr Int 81, (forR' 0 9 (fun k17 a16 =>
    (forR' 0 9 (fun k45 a44 =>
      if (↑k17 : Int) = (↑k45 : Int) then
        some a44
      else
        (chk (↑k17 : Int) 9).bind fun _ =>
        (chk (↑k45 : Int) 9).bind fun _ =>
        some (a44.set (k17 * 9 + k45) 1048576)) a16).bind fun y50 =>
    some y50) (Arr.fill 81 0)) = some y ∧ ∀ a b, a < 9 → b < 9 → mx y a b = if a = b then 0 else 1048576 := by
  rw [forR'_to (n := 9) (h := 9) rfl (by decide)]
  obtain ⟨y, h1, h2⟩ := forN'_inv (S := Arr Int 81) (body := fun k17 a16 =>
    (forR' 0 9 (fun k45 a44 =>
      if (↑k17 : Int) = (↑k45 : Int) then
        some a44
      else
        (chk (↑k17 : Int) 9).bind fun _ =>
        (chk (↑k45 : Int) 9).bind fun _ =>
        some (a44.set (k17 * 9 + k45) 1048576)) a16).bind fun y50 =>
    some y50) (fun k y => ∀ a b, a < 9 → b < 9 → mx y a b = if a < k then (if a = b then 0 else 1048576) else 0) 9 0 (Arr.fill 81 0)
    (fun a b ha hb => by rw [mx_fill 0 ha hb]; simp)
    (by
      intro i s _ hi hs
      rw [forR'_to (n := 9) (h := 9) rfl (by decide)]
      obtain ⟨y, h1, h2⟩ := forN'_inv (S := Arr Int 81) (body := fun k45 a44 =>
        if (↑i : Int) = (↑k45 : Int) then
          some a44
        else
          (chk (↑i : Int) 9).bind fun _ =>
          (chk (↑k45 : Int) 9).bind fun _ =>
          some (a44.set (i * 9 + k45) 1048576)) (fun k y => ∀ a b, a < 9 → b < 9 → mx y a b = if a < i ∨ (a = i ∧ b < k) then (if a = b then 0 else 1048576) else 0) 9 0 s
        (fun a b ha hb => by rw [hs a b ha hb]; simp)
        (by
          intro j t _ hj ht
          by_cases hij : (i : Int) = j
          · refine ⟨t, by rw [if_pos hij], fun a b ha hb => ?_⟩
            rw [ht a b ha hb]
            by_cases h1 : a < i ∨ (a = i ∧ b < j)
            · rw [if_pos h1, if_pos (show a < i ∨ (a = i ∧ b < j + 1) by omega)]
            · rw [if_neg h1]
              by_cases h2 : a < i ∨ (a = i ∧ b < j + 1)
              · rw [if_pos h2, if_pos (by omega)]
              · rw [if_neg h2]
          · refine ⟨_, by rw [if_neg hij, chk_ok (by omega) (by omega), chk_ok (by omega) (by omega)]; rfl, fun a b ha hb => ?_⟩
            rw [mx_set _ _ (by omega) (by omega) ha hb, ht a b ha hb]
            by_cases h0 : a = i ∧ b = j
            · rw [if_pos h0, if_pos (show a < i ∨ (a = i ∧ b < j + 1) by omega), if_neg (by omega)]
            · rw [if_neg h0]
              by_cases h1 : a < i ∨ (a = i ∧ b < j)
              · rw [if_pos h1, if_pos (show a < i ∨ (a = i ∧ b < j + 1) by omega)]
              · rw [if_neg h1, if_neg (show ¬ (a < i ∨ (a = i ∧ b < j + 1)) by omega)])
      refine ⟨y, by rw [h1]; rfl, fun a b ha hb => ?_⟩
      rw [h2 a b ha hb]
      by_cases h : a < i + 1
      · rw [if_pos (show a < i ∨ (a = i ∧ b < 0 + 9) by omega), if_pos h]
      · rw [if_neg (show ¬ (a < i ∨ (a = i ∧ b < 0 + 9)) by omega), if_neg h])
  refine ⟨y, h1, fun a b ha hb => ?_⟩
  rw [h2 a b ha hb, if_pos (show a < 0 + 9 by omega)]

theorem dist_links {n : Nat} (hn : n ≤ 8) {ks : List T_target_link} (hk : ∀ k ∈ ks, lkOk n k) (hl : ks.length ≤ 1000) {y0 : Arr Int 81} (h0 : ∀ a b, a < 9 → b < 9 → mx y0 a b = if a = b then 0 else 1048576) :
    ∃ y, (forR' 0 (↑ks.length : Int) (fun k117 a116 =>
    (idx ks (↑k117 : Int)).bind fun x140 =>
    (chk x140.from_ 9).bind fun _ =>
    (chk x140.to_ 9).bind fun _ =>
    (x140.count ()).bind fun x171 =>
    some (a116.set (x140.from_.toNat * 9 + x140.to_.toNat) (min (a116.get (x140.from_.toNat * 9 + x140.to_.toNat)) x171))) y0) = some y ∧ Lnk n ks y := by
  rw [forR'_list (by omega)]
  obtain ⟨y, h1, h2⟩ := forN'_inv (S := Arr Int 81) (body := fun k117 a116 =>
    (idx ks (↑k117 : Int)).bind fun x140 =>
    (chk x140.from_ 9).bind fun _ =>
    (chk x140.to_ 9).bind fun _ =>
    (x140.count ()).bind fun x171 =>
    some (a116.set (x140.from_.toNat * 9 + x140.to_.toNat) (min (a116.get (x140.from_.toNat * 9 + x140.to_.toNat)) x171))) (fun k y => Lnk n (ks.take k) y) ks.length 0 y0
    (by
      refine ⟨fun a b ha hb => ?_, fun a b ha hb => ?_, fun a ha => ?_, fun k hk => by simp at hk, fun x _ hx a b ha hb => ?_⟩
      · rw [h0 a b ha hb]; split <;> omega
      · rw [h0 a b ha hb]; split <;> omega
      · rw [h0 a a ha ha, if_pos rfl]; omega
      · rw [h0 a b (by omega) (by omega)]
        split
        · rename_i e; subst e; omega
        · exact hx a b ha hb)
    (by
      intro i s _ hi hs
      have hlt : i < ks.length := by omega
      have hm : ks[i] ∈ ks := List.getElem_mem hlt
      obtain ⟨f0, f1, t0, t1, w, hw, w0, w1⟩ := hk _ hm
      rw [idx_nat, List.getElem?_eq_getElem hlt, Option.bind_some, chk_ok f0 (by omega), Option.bind_some, chk_ok t0 (by omega), Option.bind_some, hw, Option.bind_some]
      refine ⟨_, rfl, ?_⟩
      have e : ks.take (i + 1) = ks.take i ++ [ks[i]] := by rw [List.take_add_one, List.getElem?_eq_getElem hlt]; rfl
      have hF : ks[i].from_.toNat < 9 := by omega
      have hT : ks[i].to_.toNat < 9 := by omega
      have hg : ∀ a b, a < 9 → b < 9 → mx (s.set (ks[i].from_.toNat * 9 + ks[i].to_.toNat) (min (s.get (ks[i].from_.toNat * 9 + ks[i].to_.toNat)) w)) a b = if a = ks[i].from_.toNat ∧ b = ks[i].to_.toNat then min (mx s ks[i].from_.toNat ks[i].to_.toNat) w else mx s a b := fun a b ha hb => mx_set _ _ hF hT ha hb
      have hle : ∀ a b, a < 9 → b < 9 → mx (s.set (ks[i].from_.toNat * 9 + ks[i].to_.toNat) (min (s.get (ks[i].from_.toNat * 9 + ks[i].to_.toNat)) w)) a b ≤ mx s a b := by
        intro a b ha hb
        rw [hg a b ha hb]
        split
        · rename_i h; rw [h.1, h.2]; exact Int.min_le_left _ _
        · exact Int.le_refl _
      refine ⟨fun a b ha hb => ?_, fun a b ha hb => Int.le_trans (hle a b ha hb) (hs.hi a b ha hb), fun a ha => Int.le_trans (hle a a ha ha) (hs.dg a ha), fun k hk' w' hw' => ?_, fun x hx hf a b ha hb => ?_⟩
      · rw [hg a b ha hb]
        have := hs.lo a b ha hb
        have := hs.lo _ _ hF hT
        split <;> omega
      · rw [e, List.mem_append] at hk'
        rcases hk' with hk' | hk'
        · obtain ⟨g0, g1, g2, g3, _⟩ := hk k (List.mem_of_mem_take hk')
          exact Int.le_trans (hle _ _ (by omega) (by omega)) (hs.lk k hk' w' hw')
        · simp only [List.mem_singleton] at hk'
          subst hk'
          rw [hw] at hw'
          cases hw'
          rw [hg _ _ hF hT, if_pos ⟨rfl, rfl⟩]
          exact Int.min_le_right _ _
      · rw [hg a b (by omega) (by omega)]
        have hx0 : Feas (ks.take i) x := fun k hk w hw => hx k (by rw [e]; exact List.mem_append_left _ hk) w hw
        have h3 := hs.fe x hx0 hf a b ha hb
        split
        · rename_i h
          have h4 := hx ks[i] (by rw [e]; exact List.mem_append_right _ (List.mem_singleton.2 rfl)) w hw
          rw [← h.1, ← h.2] at *
          omega
        · exact h3)
  refine ⟨y, h1, ?_⟩
  have : ks.take (0 + ks.length) = ks := by rw [Nat.zero_add, List.take_length]
  rw [this] at h2
  exact h2
end Go.Proofs.Ytaoaelhmiggepaa
