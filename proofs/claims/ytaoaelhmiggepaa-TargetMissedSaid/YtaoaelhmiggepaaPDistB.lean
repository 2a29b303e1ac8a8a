/- What 'target.distances' returns. -/
import Derived.Test.YtaoaelhmiggepaaPFloyd
namespace Go.Proofs.Ytaoaelhmiggepaa
open Go.KL

/-- What is known of the sums that are returned, and of whether they agree. -/
structure Dist (n : Nat) (ks : List T_target_link) (y : Arr Int 81) (ok : Bool) : Prop where
  lo : ∀ a b, a ≤ n → b ≤ n → -100000000000 ≤ mx y a b
  hi : ∀ a b, a ≤ n → b ≤ n → mx y a b ≤ 1048576
  fe : ∀ x : Nat → Int, Feas ks x → (∀ a b, a ≤ n → b ≤ n → x b - x a ≤ 1048576) → ∀ a b, a ≤ n → b ≤ n → x b - x a ≤ mx y a b
  dg : ok = true → ∀ a, a ≤ n → mx y a a = 0
  tri : ok = true → ∀ a b j, a ≤ n → b ≤ n → j ≤ n → mx y a b ≤ mx y a j + mx y j b
  lk : ∀ k ∈ ks, ∀ w, k.count () = some w → mx y k.from_.toNat k.to_.toNat ≤ w
  no : ok = false → ∃ a, a ≤ n ∧ mx y a a < 0

theorem dist_eq {n : Nat} (hn : n ≤ 8) {ks : List T_target_link} (hk : ∀ k ∈ ks, lkOk n k) (hl : ks.length ≤ 1000) : ∃ y ok, m_target_distances (n : Int) ks = some (y, ok) ∧ Dist n ks y ok := by
  unfold m_target_distances
  obtain ⟨y0, g0, h0⟩ := dist_start
  obtain ⟨y1, g1, h1⟩ := dist_links hn hk hl h0
  obtain ⟨y2, g2, h2⟩ := floyd hn (y0 := y1) (fun a b ha hb => h1.lo a b (by omega) (by omega)) (fun a b ha hb => h1.hi a b (by omega) (by omega))
  have hw : w64 ((n : Int) + 1) = ↑(n + 1) := by rw [w64_in (by omega) (by omega)]; rfl
  rw [g0, Option.bind_some, g1, Option.bind_some, hw, g2, Option.bind_some, forR_list (by omega)]
  have hp9 : (6 ^ (n + 1) : Nat) ≤ 6 ^ 9 := Nat.pow_le_pow_right (by decide) (by omega)
  have hp : (6 ^ 9 : Nat) = 10077696 := by decide
  have base : ∀ ok : Bool, (ok = true → ∀ a, a ≤ n → 0 ≤ mx y2 a a) → (ok = false → ∃ a, a ≤ n ∧ mx y2 a a < 0) → Dist n ks y2 ok := by
    intro ok hyes hno
    refine ⟨fun a b ha hb => ?_, fun a b ha hb => Int.le_trans (h2.le a b ha hb) (h1.hi a b (by omega) (by omega)), fun x hx hf => h2.fe x (h1.fe x hx hf), fun e a ha => ?_, fun e a b j ha hb hj => h2.tri (hyes e) j (by omega) a b ha hb, fun k hk' w hw' => ?_, hno⟩
    · have := h2.lo a b ha hb
      omega
    · have := hyes e a ha
      have := Int.le_trans (h2.le a a ha ha) (h1.dg a (by omega))
      omega
    · obtain ⟨f0, f1, t0, t1, _⟩ := hk k hk'
      exact Int.le_trans (h2.le _ _ (by omega) (by omega)) (h1.lk k hk' w hw')
  rcases forN_inv (S := Unit) (B := Arr Int 81 × Bool) (body := fun k360 _ =>
    (chk (↑k360 : Int) 9).bind fun _ =>
    if (y2.get (k360 * 9 + k360)) < 0 then
      esc (some (y2, false))
    else
      some (.inl ())) (fun k _ => ∀ a, a < k → 0 ≤ mx y2 a a) (fun b => b = (y2, false) ∧ ∃ a, a ≤ n ∧ mx y2 a a < 0) (n + 1) 0 () (fun a ha => by omega)
    (by
      intro i s _ hi hs
      rw [chk_ok (by omega) (by omega), Option.bind_some]
      by_cases h : y2.get (i * 9 + i) < 0
      · rw [if_pos h]
        exact .inr ⟨_, rfl, rfl, i, by omega, h⟩
      · rw [if_neg h]
        refine .inl ⟨(), rfl, fun a ha => ?_⟩
        by_cases e : a = i
        · subst e
          show 0 ≤ y2.get (a * 9 + a)
          omega
        · exact hs a (by omega)) with ⟨_, g3, h3⟩ | ⟨b, g3, rfl, h3⟩
  · rw [g3]
    exact ⟨y2, true, rfl, base true (fun _ a ha => h3 a (by omega)) (fun e => by cases e)⟩
  · rw [g3]
    exact ⟨y2, false, rfl, base false (fun e => by cases e) (fun _ => h3)⟩

/-- Where the sums agree, the sums from one place are numbers that links allow. -/
theorem Dist.pot {n : Nat} {ks : List T_target_link} {y : Arr Int 81} (D : Dist n ks y true) (hk : ∀ k ∈ ks, lkOk n k) {a : Nat} (ha : a ≤ n) : Feas ks (fun v => mx y a v) := by
  intro k hk' w hw
  obtain ⟨f0, f1, t0, t1, _⟩ := hk k hk'
  have h1 := D.tri rfl a k.to_.toNat k.from_.toNat ha (by omega) (by omega)
  have h2 := D.lk k hk' w hw
  show mx y a k.to_.toNat - mx y a k.from_.toNat ≤ w
  omega
theorem Dist.none {n : Nat} {ks : List T_target_link} {y : Arr Int 81} (D : Dist n ks y false) (x : Nat → Int) (hx : Feas ks x) (hf : ∀ a b, a ≤ n → b ≤ n → x b - x a ≤ 1048576) : False := by
  obtain ⟨a, ha, h⟩ := D.no rfl
  have := D.fe x hx hf a a ha ha
  omega
end Go.Proofs.Ytaoaelhmiggepaa
