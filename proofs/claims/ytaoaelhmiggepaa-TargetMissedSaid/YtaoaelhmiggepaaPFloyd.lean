/- The greatest sums from place to place: the rounds over places in between. -/
import Derived.Test.YtaoaelhmiggepaaPDist
namespace Go.Proofs.Ytaoaelhmiggepaa
open Go.KL

/-- In the middle of a round: all before row i, and of row i all before j, are done. -/
structure Rnd (n k : Nat) (B : Int) (y s : Arr Int 81) (i j : Nat) : Prop where
  un : ∀ a b, a ≤ n → b ≤ n → ¬ (a < i ∨ (a = i ∧ b < j)) → mx s a b = mx y a b
  kk : -(2 * B) ≤ mx s k k
  row : ∀ b, b ≤ n → -(3 * B) ≤ mx s k b
  col : ∀ a, a ≤ n → -(3 * B) ≤ mx s a k
  all : ∀ a b, a ≤ n → b ≤ n → -(6 * B) ≤ mx s a b
  le : ∀ a b, a ≤ n → b ≤ n → mx s a b ≤ mx y a b
  fe : ∀ x : Nat → Int, (∀ a b, a ≤ n → b ≤ n → x b - x a ≤ mx y a b) → ∀ a b, a ≤ n → b ≤ n → x b - x a ≤ mx s a b
  fo : 0 ≤ mx y k k → ∀ a b, a ≤ n → b ≤ n → (a < i ∨ (a = i ∧ b < j)) → mx s a b = min (mx y a b) (mx y a k + mx y k b)

theorem rnd_step {n k : Nat} {B : Int} {y s : Arr Int 81} {i j : Nat} (hn : n ≤ 8) (hk : k ≤ n) (hB : 0 ≤ B) (hB' : B ≤ 1000000000000) (lo : ∀ a b, a ≤ n → b ≤ n → -B ≤ mx y a b) (hi : ∀ a b, a ≤ n → b ≤ n → mx y a b ≤ 1048576)
    (R : Rnd n k B y s i j) (h1 : i ≤ n) (h2 : j ≤ n) : Rnd n k B y (s.set (i * 9 + j) (min (s.get (i * 9 + j)) (w64 ((s.get (i * 9 + k)) + (s.get (k * 9 + j)))))) i (j + 1) := by
  have hw : w64 ((s.get (i * 9 + k)) + (s.get (k * 9 + j))) = mx s i k + mx s k j := by
    have a1 := R.col i h1
    have a2 := R.row j h2
    have a3 := R.le i k h1 hk
    have a4 := R.le k j hk h2
    have a5 := hi i k h1 hk
    have a6 := hi k j hk h2
    exact w64_in (by show _ ≤ mx s i k + mx s k j; omega) (by show mx s i k + mx s k j ≤ _; omega)
  rw [hw]
  have hg : ∀ a b, a ≤ n → b ≤ n → mx (s.set (i * 9 + j) (min (s.get (i * 9 + j)) (mx s i k + mx s k j))) a b = if a = i ∧ b = j then min (mx s i j) (mx s i k + mx s k j) else mx s a b :=
    fun a b ha hb => mx_set _ _ (by omega) (by omega) (by omega) (by omega)
  have hij : mx s i j = mx y i j := R.un i j h1 h2 (by omega)
  refine ⟨fun a b ha hb hd => ?_, ?_, fun b hb => ?_, fun a ha => ?_, fun a b ha hb => ?_, fun a b ha hb => ?_, fun x hx a b ha hb => ?_, fun h0 a b ha hb hd => ?_⟩
  · rw [hg a b ha hb, if_neg (by omega)]
    exact R.un a b ha hb (by omega)
  · rw [hg k k hk hk]
    have := R.kk
    split
    · rename_i h
      have e : mx s k k = mx y k k := R.un k k hk hk (by omega)
      have := lo k k hk hk
      rw [← h.1, ← h.2]
      omega
    · exact this
  · rw [hg k b hk hb]
    have := R.kk
    have := R.row b hb
    split
    · rename_i h
      have e : mx s k b = mx y k b := R.un k b hk hb (by omega)
      have := lo k b hk hb
      rw [← h.1, ← h.2]
      omega
    · exact R.row b hb
  · rw [hg a k ha hk]
    have := R.kk
    have := R.col a ha
    split
    · rename_i h
      have e : mx s a k = mx y a k := R.un a k ha hk (by omega)
      have := lo a k ha hk
      rw [← h.1, ← h.2]
      omega
    · exact R.col a ha
  · rw [hg a b ha hb]
    have := R.all a b ha hb
    have := R.all i j h1 h2
    have := R.col i h1
    have := R.row j h2
    split <;> omega
  · rw [hg a b ha hb]
    split
    · rename_i h
      rw [h.1, h.2, ← hij]
      exact Int.min_le_left _ _
    · exact R.le a b ha hb
  · rw [hg a b ha hb]
    have f1 := R.fe x hx i k h1 hk
    have f2 := R.fe x hx k j hk h2
    have f3 := R.fe x hx i j h1 h2
    split
    · rename_i h
      rw [h.1, h.2]
      omega
    · exact R.fe x hx a b ha hb
  · rw [hg a b ha hb]
    split
    · rename_i h
      have e1 : mx s i k = mx y i k := by
        by_cases d : i < i ∨ (i = i ∧ k < j)
        · rw [R.fo h0 i k h1 hk d]; omega
        · exact R.un i k h1 hk d
      have e2 : mx s k j = mx y k j := by
        by_cases d : k < i ∨ (k = i ∧ j < j)
        · rw [R.fo h0 k j hk h2 d]; omega
        · exact R.un k j hk h2 d
      rw [h.1, h.2, hij, e1, e2]
    · exact R.fo h0 a b ha hb (by omega)

theorem floyd_round {n k : Nat} {B : Int} {y : Arr Int 81} (hn : n ≤ 8) (hk : k ≤ n) (hB : 0 ≤ B) (hB' : B ≤ 1000000000000) (lo : ∀ a b, a ≤ n → b ≤ n → -B ≤ mx y a b) (hi : ∀ a b, a ≤ n → b ≤ n → mx y a b ≤ 1048576) :
    ∃ y', ((forR' 0 (↑(n + 1) : Int) (fun k234 a233 =>
      (forR' 0 (↑(n + 1) : Int) (fun k265 a264 =>
        (chk (↑k234 : Int) 9).bind fun _ =>
        (chk (↑k265 : Int) 9).bind fun _ =>
        (chk (↑k : Int) 9).bind fun _ =>
        some (a264.set (k234 * 9 + k265) (min (a264.get (k234 * 9 + k265)) (w64 ((a264.get (k234 * 9 + k)) + (a264.get (k * 9 + k265))))))) a233).bind fun y270 =>
      some y270) y).bind fun y239 => some y239) = some y' ∧ (∀ a b, a ≤ n → b ≤ n → -(6 * B) ≤ mx y' a b) ∧ (∀ a b, a ≤ n → b ≤ n → mx y' a b ≤ mx y a b) ∧
      (∀ x : Nat → Int, (∀ a b, a ≤ n → b ≤ n → x b - x a ≤ mx y a b) → ∀ a b, a ≤ n → b ≤ n → x b - x a ≤ mx y' a b) ∧
      (0 ≤ mx y k k → ∀ a b, a ≤ n → b ≤ n → mx y' a b = min (mx y a b) (mx y a k + mx y k b)) := by
  rw [forR'_list (by omega)]
  obtain ⟨y', g1, g2⟩ := forN'_inv (S := Arr Int 81) (body := fun k234 a233 =>
      (forR' 0 (↑(n + 1) : Int) (fun k265 a264 =>
        (chk (↑k234 : Int) 9).bind fun _ =>
        (chk (↑k265 : Int) 9).bind fun _ =>
        (chk (↑k : Int) 9).bind fun _ =>
        some (a264.set (k234 * 9 + k265) (min (a264.get (k234 * 9 + k265)) (w64 ((a264.get (k234 * 9 + k)) + (a264.get (k * 9 + k265))))))) a233).bind fun y270 =>
      some y270) (fun i s => Rnd n k B y s i 0) (n + 1) 0 y
    ⟨fun _ _ _ _ _ => rfl, by have := lo k k hk hk; omega, fun b hb => by have := lo k b hk hb; omega, fun a ha => by have := lo a k ha hk; omega, fun a b ha hb => by have := lo a b ha hb; omega,
      fun _ _ _ _ => Int.le_refl _, fun _ hx => hx, fun _ a b _ _ h => by omega⟩
    (by
      intro i s _ hi' R
      rw [forR'_list (by omega)]
      obtain ⟨t, g1, g2⟩ := forN'_inv (S := Arr Int 81) (body := fun k265 a264 =>
        (chk (↑i : Int) 9).bind fun _ =>
        (chk (↑k265 : Int) 9).bind fun _ =>
        (chk (↑k : Int) 9).bind fun _ =>
        some (a264.set (i * 9 + k265) (min (a264.get (i * 9 + k265)) (w64 ((a264.get (i * 9 + k)) + (a264.get (k * 9 + k265))))))) (fun j s => Rnd n k B y s i j) (n + 1) 0 s R
        (by
          intro j t _ hj R
          refine ⟨_, by rw [chk_ok (by omega) (by omega), chk_ok (by omega) (by omega), chk_ok (by omega) (by omega)]; rfl, rnd_step hn hk hB hB' lo hi R (by omega) (by omega)⟩)
      refine ⟨t, by rw [g1]; rfl, ?_⟩
      refine ⟨fun a b ha hb hd => g2.un a b ha hb (by omega), g2.kk, g2.row, g2.col, g2.all, g2.le, g2.fe, fun h0 a b ha hb hd => g2.fo h0 a b ha hb (by omega)⟩)
  refine ⟨y', by rw [g1]; rfl, g2.all, g2.le, g2.fe, fun h0 a b ha hb => g2.fo h0 a b ha hb (by omega)⟩

/-- Behind k rounds. -/
structure Fl (n : Nat) (y0 y : Arr Int 81) (k : Nat) : Prop where
  lo : ∀ a b, a ≤ n → b ≤ n → -(100 * ((6 ^ k : Nat) : Int)) ≤ mx y a b
  le : ∀ a b, a ≤ n → b ≤ n → mx y a b ≤ mx y0 a b
  fe : ∀ x : Nat → Int, (∀ a b, a ≤ n → b ≤ n → x b - x a ≤ mx y0 a b) → ∀ a b, a ≤ n → b ≤ n → x b - x a ≤ mx y a b
  tri : (∀ a, a ≤ n → 0 ≤ mx y a a) → ∀ j, j < k → ∀ a b, a ≤ n → b ≤ n → mx y a b ≤ mx y a j + mx y j b

theorem floyd {n : Nat} (hn : n ≤ 8) {y0 : Arr Int 81} (lo : ∀ a b, a ≤ n → b ≤ n → -100 ≤ mx y0 a b) (hi : ∀ a b, a ≤ n → b ≤ n → mx y0 a b ≤ 1048576) :
    ∃ y, (forR' 0 (↑(n + 1) : Int) (fun k206 a205 =>
    (forR' 0 (↑(n + 1) : Int) (fun k234 a233 =>
      (forR' 0 (↑(n + 1) : Int) (fun k265 a264 =>
        (chk (↑k234 : Int) 9).bind fun _ =>
        (chk (↑k265 : Int) 9).bind fun _ =>
        (chk (↑k206 : Int) 9).bind fun _ =>
        some (a264.set (k234 * 9 + k265) (min (a264.get (k234 * 9 + k265)) (w64 ((a264.get (k234 * 9 + k206)) + (a264.get (k206 * 9 + k265))))))) a233).bind fun y270 =>
      some y270) a205).bind fun y239 =>
    some y239) y0) = some y ∧ Fl n y0 y (n + 1) := by
  rw [forR'_list (by omega)]
  obtain ⟨y, g1, g2⟩ := forN'_inv (S := Arr Int 81) (body := fun k206 a205 =>
    (forR' 0 (↑(n + 1) : Int) (fun k234 a233 =>
      (forR' 0 (↑(n + 1) : Int) (fun k265 a264 =>
        (chk (↑k234 : Int) 9).bind fun _ =>
        (chk (↑k265 : Int) 9).bind fun _ =>
        (chk (↑k206 : Int) 9).bind fun _ =>
        some (a264.set (k234 * 9 + k265) (min (a264.get (k234 * 9 + k265)) (w64 ((a264.get (k234 * 9 + k206)) + (a264.get (k206 * 9 + k265))))))) a233).bind fun y270 =>
      some y270) a205).bind fun y239 =>
    some y239) (fun k y => Fl n y0 y k) (n + 1) 0 y0
    ⟨fun a b ha hb => by have := lo a b ha hb; simpa using this, fun _ _ _ _ => Int.le_refl _, fun _ hx => hx, fun _ j hj => by omega⟩
    (by
      intro k s _ hk F
      have hp : (6 ^ k : Nat) ≤ 6 ^ 9 := Nat.pow_le_pow_right (by decide) (by omega)
      have hp1 : (6 ^ (k + 1) : Nat) = 6 * 6 ^ k := by rw [Nat.pow_succ, Nat.mul_comm]
      have hp9 : (6 ^ 9 : Nat) = 10077696 := by decide
      obtain ⟨y', r1, r2, r3, r4, r5⟩ := floyd_round (n := n) (k := k) (B := 100 * ((6 ^ k : Nat) : Int)) (y := s) hn (by omega) (by omega) (by omega) F.lo (fun a b ha hb => Int.le_trans (F.le a b ha hb) (hi a b ha hb))
      refine ⟨y', r1, fun a b ha hb => ?_, fun a b ha hb => Int.le_trans (r3 a b ha hb) (F.le a b ha hb), fun x hx => r4 x (F.fe x hx), fun h0 => ?_⟩
      · have := r2 a b ha hb
        rw [hp1]
        omega
      · have hs : ∀ a, a ≤ n → 0 ≤ mx s a a := fun a ha => Int.le_trans (h0 a ha) (r3 a a ha ha)
        have T := F.tri hs
        have E := r5 (hs k (by omega))
        have kk := hs k (by omega)
        intro j hj a b ha hb
        have hjn : j ≤ n := by omega
        have hkn : k ≤ n := by omega
        have e1 := E a b ha hb
        have e2 := E a j ha hjn
        have e3 := E j b hjn hb
        by_cases hjk : j = k
        · subst hjk
          omega
        · have t1 := T j (by omega) a b ha hb
          have t2 := T j (by omega) k b hkn hb
          have t3 := T j (by omega) a k ha hkn
          have t4 := T j (by omega) k k hkn hkn
          omega)
  exact ⟨y, g1, by simpa using g2⟩
end Go.Proofs.Ytaoaelhmiggepaa
