/- Rows that are lent to calls. -/
import Derived.Test.YtaoaelhmiggepaaVT
namespace Go.KL
open Go.RowKit
section
variable {B : Base} {φ : PHeap} {L : List Res} {w : World}
/-- A row that is lent: frozen, and owned again behind a call. -/
theorem St.freezeT (h : St B φ L w) {k c n T sz : Nat} {A : Option Addr} {cs : List Value} (hk : L[k]? = some (.row A c T sz cs)) (hn : cs.length = n * sz) (hz : 0 < sz) :
    ∃ φ', PHeap.Le φ φ' ∧ Sl φ' sz A c n cs ∧ St B φ' (L.eraseIdx k) w ∧ ∀ φ2 L2 w2, PHeap.Le φ' φ2 → St B φ2 L2 w2 → ∃ φ3, PHeap.Le φ φ3 ∧ St B φ3 (.row A c T sz cs :: L2) w2 := by
  have hr := h.at_ _ (List.mem_of_getElem? hk)
  rcases hr with ⟨rfl, rfl, rfl⟩ | ⟨b, cur, rfl, h1, h2, h3⟩
  · have : n = 0 := by
      simp only [List.length_nil] at hn
      rcases Nat.eq_zero_or_pos n with e | e
      · exact e
      · have := Nat.mul_pos e hz; omega
    subst this
    exact ⟨φ, PHeap.Le.refl φ, Sl.nil _ _ _ _, h.drop k, fun φ2 L2 w2 hl h2 => ⟨φ2, hl, h2.nilrow T sz⟩⟩
  · have ho := h.own _ (List.mem_of_getElem? hk) b rfl
    obtain ⟨φ', g1, g2, g3⟩ := h.freezeB ⟨_, hk, rfl⟩
    obtain ⟨_, _, h5⟩ := id h3
    refine ⟨φ', g1, ⟨hn, ?_, .inr ⟨b, 0, cur, T, (0, 0), rfl, g2.trans h1, ?_⟩⟩, g3, fun φ2 L2 w2 hl q => ?_⟩
    · rw [hn] at h2; exact Nat.le_of_mul_le_mul_right h2 hz
    · rw [← hn]; simpa using h5
    · have e2 := hl _ _ (g2.trans h1)
      refine ⟨fun x => if x = b then none else φ2 x, fun x o hx => ?_, q.os, q.tape, q.output, q.size, q.old, fun x o hx => ?_, fun x o hx => ?_, fun x o hx => ?_, fun r hr => ?_, fun r hr x hx => ?_, fun i j r s x hi hj hr hs => ?_⟩
      · have : x ≠ b := fun e => by subst e; rw [ho.1] at hx; cases hx
        simp only [if_neg this]
        exact hl _ _ (g1 _ _ hx)
      · split at hx
        · cases hx
        · exact q.fro x o hx
      · have : x ≠ b := fun e => by subst e; have := h.le x o hx; rw [ho.1] at this; cases this
        simp only [if_neg this]
        exact q.le x o hx
      · split at hx
        · cases hx
        · exact q.src x o hx
      · rcases List.mem_cons.1 hr with rfl | hr
        · exact .inr ⟨b, cur, rfl, q.fro _ _ e2, h2, h3⟩
        · exact q.at_ r hr
      · rcases List.mem_cons.1 hr with rfl | hr
        · cases hx
          exact ⟨by simp, ho.2⟩
        · have := q.own r hr x hx
          refine ⟨?_, this.2⟩
          split
          · rfl
          · exact this.1
      · have no : ∀ (i : Nat) (r : Res), L2[i]? = some r → r.blk? ≠ some b := fun i r hi hb => by
          have := (q.own r (List.mem_of_getElem? hi) b hb).1
          rw [e2] at this
          cases this
        cases i with
        | zero =>
          simp only [List.getElem?_cons_zero, Option.some.injEq] at hi
          subst hi
          cases hr
          cases j with
          | zero => rfl
          | succ j => exact absurd hs (no j s (by simpa using hj))
        | succ i =>
          cases j with
          | zero =>
            simp only [List.getElem?_cons_zero, Option.some.injEq] at hj
            subst hj
            cases hs
            exact absurd hr (no i r (by simpa using hi))
          | succ j => rw [q.dj i j r s x (by simpa using hi) (by simpa using hj) hr hs]
end
end Go.KL
