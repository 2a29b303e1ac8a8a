/- Slices that are made and cut. -/
import Derived.Test.YtfdnbaahdjlapaaGreatVG
import Derived.Laws.MakeOwn
namespace Go.KL
open Go.RowKit
section
variable {N : Nat} {P : Program} {l : List Oper} {Q : Post} {D : List Deferred} {ks : List Nat} {σ : Env} {w : World} {i d : Nat} {s : Sch} {o : Oper} {B : Base} {φ : PHeap} {L : List Res}
theorem madeCells_one (v : Value) (n : Nat) : madeCells #[v] n = (List.replicate n v).toArray := by
  apply Array.ext'
  simp [madeCells, Nat.mod_one, List.map_const']
theorem flatMap_replicate1 {α : Type} {enc : α → List Value} {z : α} {v : Value} (h : enc z = [v]) (n : Nat) : List.flatMap enc (List.replicate n z) = List.replicate n v := by
  induction n with
  | zero => rfl
  | succ n ih => rw [List.replicate_succ, List.flatMap_cons, ih, h]; rfl
theorem OKS.makeSlice {α : Type} {t e : TypeId} {inf : TypeInfo} {x y : Operand} {n : Int} {v : Value} {enc : α → List Value} {z : α} {xs : List α} (ho : l[i]? = some o) (hd : o.dst = some d) (hN : Nat.blt d N = true) (hw : wanted l σ o = true) (hop : o.op = .makeSlice t x y)
    (ht : P.underlying t = some (.slice e)) (hi : P.info? e = some inf) (hz : inf.zero = some v) (hc : v.cells = #[v]) (hs : inf.size = 1) (henc : enc z = [v]) (hx : ev σ x = .int .i64 n) (hy : ev σ y = .int .i64 n) (hm : mkz inf.bytes n z = some xs) (hS : St B φ L w)
    (k : ∀ w' b, St B φ (.row (some ⟨b, 0, none⟩) xs.length e 1 (List.flatMap enc xs) :: L) w' → OKS N P l Q D ks s (upd σ d (.slice (some ⟨b, 0, none⟩) xs.length xs.length)) w') : OKS N P l Q D ks (.fx i s .stop) σ w := by
  unfold mkz at hm
  split at hm
  · rename_i h
    obtain ⟨h0, h1, h2⟩ := h
    cases hm
    obtain ⟨m, rfl⟩ := Int.eq_ofNat_of_zero_le h0
    have hr := run_makeSlice (P := P) w t e inf _ ht hi hz .i64 .i64 (m : Int) (m : Int) (by omega) (by omega) (by rw [hs, Int.toNat_natCast]; omega) h2 (by omega)
    simp only [hs, Int.toNat_natCast, Nat.mul_one, hc, madeCells_one] at hr
    simp only [Int.toNat_natCast, List.length_replicate, flatMap_replicate1 henc] at k
    have hmax : m ≤ maxLen := by
      have h16 : (16777216 : Nat) ≤ maxLen := by decide
      omega
    refine OKS.v (v := .slice (some ⟨w.heap.size, 0, none⟩) m m) (w' := w.alloc (.cells (List.replicate m v).toArray e)) ho hd hN hw ⟨by rw [hop]; rfl, ?_⟩ (.inr (alloc_keep w _))
      (k _ _ (hS.new (alloc_keep w _) (.inr ⟨_, (List.replicate m v).toArray, rfl, alloc_blk w _ e, by simp, hmax, by simp, by simp⟩) rfl (Nat.le_refl _)))
    simp [execOp, hop, hx, hy, hr, Result.andThen]
  · cases hm
theorem Sl.cut {sz c n a b : Nat} {A : Option Addr} {cs : List Value} (h : Sl φ sz A c n cs) (hab : a ≤ b) (hb : b ≤ n) :
    Sl φ sz (if c = a then A else A.map (·.add (a * sz))) (c - a) (b - a) ((cs.drop (a * sz)).take ((b - a) * sz)) := by
  have hcap := h.cap
  have hl := h.len
  have h1 : (b - a) * sz = b * sz - a * sz := Nat.sub_mul _ _ _
  have h2 : a * sz ≤ b * sz := Nat.mul_le_mul_right _ hab
  have h3 : b * sz ≤ n * sz := Nat.mul_le_mul_right _ hb
  refine ⟨by rw [List.length_take, List.length_drop, hl]; omega, by omega, ?_⟩
  rcases h.mem with h0 | ⟨g, off, arr, T, fr, rfl, hp, hcs⟩
  · left; omega
  · by_cases hba : b = a
    · left; omega
    · right
      have hca : ¬ c = a := by omega
      refine ⟨g, off + a * sz, arr, T, fr, by rw [if_neg hca]; simp [Addr.add], hp, ?_⟩
      rw [← hcs, ← List.drop_drop, List.drop_take, List.take_take]
      congr 1
      omega
theorem flatMap_drop {α : Type} {f : α → List Value} {sz : Nat} (hf : ∀ a, (f a).length = sz) : ∀ (l : List α) (k : Nat), (List.flatMap f l).drop (k * sz) = List.flatMap f (l.drop k)
  | l, 0 => by simp
  | [], k + 1 => by simp
  | a :: l, k + 1 => by
    rw [List.flatMap_cons, List.drop_succ_cons, ← flatMap_drop hf l k, Nat.succ_mul, Nat.add_comm, ← hf a, ← List.drop_drop, List.drop_left]
theorem flatMap_take {α : Type} {f : α → List Value} {sz : Nat} (hf : ∀ a, (f a).length = sz) : ∀ (l : List α) (k : Nat), (List.flatMap f l).take (k * sz) = List.flatMap f (l.take k)
  | l, 0 => by simp
  | [], k + 1 => by simp
  | a :: l, k + 1 => by
    rw [List.flatMap_cons, List.take_succ_cons, List.flatMap_cons, ← flatMap_take hf l k, Nat.succ_mul, Nat.add_comm]
    conv => lhs; rw [← hf a]
    rw [List.take_length_add_append, hf a]
theorem Sl.cutM {α : Type} {f : α → List Value} {sz c : Nat} {a b : Int} {A : Option Addr} {m xs : List α} (h : Sl φ sz A c m.length (List.flatMap f m)) (hf : ∀ a, (f a).length = sz) (hm : Go.KL.cut m a b = some xs) :
    Sl φ sz (if c = a.toNat then A else A.map (·.add (a.toNat * sz))) (c - a.toNat) xs.length (List.flatMap f xs) ∧ 0 ≤ a ∧ a ≤ b ∧ b ≤ m.length ∧ xs.length = b.toNat - a.toNat := by
  unfold Go.KL.cut at hm
  split at hm
  · rename_i h0
    obtain ⟨h1, h2, h3⟩ := h0
    cases hm
    have hl : ((m.drop a.toNat).take (b.toNat - a.toNat)).length = b.toNat - a.toNat := by rw [List.length_take, List.length_drop]; omega
    have := h.cut (a := a.toNat) (b := b.toNat) (by omega) (by omega)
    rw [flatMap_drop hf, flatMap_take hf] at this
    rw [hl]
    exact ⟨this, h1, h2, h3, rfl⟩
  · cases hm
theorem Runs.slc {t e sz n c : Nat} {x : Operand} {lo hi : Option Operand} {a b : Int} {A : Option Addr} (hop : o.op = .slice t x lo hi none) (hx : ev σ x = .slice A n c)
    (hlo : (∃ y, lo = some y ∧ ev σ y = .int .i64 a) ∨ (lo = none ∧ a = 0)) (hhi : (∃ y, hi = some y ∧ ev σ y = .int .i64 b) ∨ (hi = none ∧ b = n))
    (ht : ∀ w, (underlying t).run P w = .ok (.slice e) w) (hs : ∀ w, (sizeOf e).run P w = .ok sz w) (h0 : 0 ≤ a) (h1 : a ≤ b) (h2 : b ≤ n) (h3 : n ≤ c) :
    Runs P σ w o (.slice (if c = a.toNat then A else A.map (·.add (a.toNat * sz))) (b.toNat - a.toNat) (c - a.toNat)) w := by
  have hb0 : 0 ≤ b := by omega
  obtain ⟨b, rfl⟩ := Int.eq_ofNat_of_zero_le hb0
  obtain ⟨a, rfl⟩ := Int.eq_ofNat_of_zero_le h0
  have g1 : a ≤ b := by omega
  have g2 : b ≤ c := by omega
  have g3 : a ≤ n := by omega
  simp only [Int.toNat_natCast]
  refine ⟨by rw [hop]; rfl, ?_⟩
  rcases hlo with ⟨y, rfl, hy⟩ | ⟨rfl, ha⟩ <;> rcases hhi with ⟨z, rfl, hz⟩ | ⟨rfl, hb⟩
  · simp [execOp, hop, hx, hy, hz, ht, hs, g1, g2, g3, Instr.sliceAt, Instr.slice, Instr.sliceBounds, Instr.sliceBound, asIntOf, Result.andThen]
  · have hb' : b = n := by omega
    subst hb'
    simp [execOp, hop, hx, hy, ht, hs, g1, g2, g3, Instr.sliceAt, Instr.slice, Instr.sliceBounds, Instr.sliceBound, asIntOf, Result.andThen]
  · have ha' : a = 0 := by omega
    subst ha'
    simp [execOp, hop, hx, hz, ht, hs, g1, g2, g3, Instr.sliceAt, Instr.slice, Instr.sliceBounds, Instr.sliceBound, asIntOf, Result.andThen]
  · have ha' : a = 0 := by omega
    have hb' : b = n := by omega
    subst ha' hb'
    simp [execOp, hop, hx, ht, hs, Instr.sliceAt, Instr.slice, Instr.sliceBounds, Instr.sliceBound, asIntOf, Result.andThen]
end
end Go.KL
