/- Slices that are made and cut. -/
import Derived.Test.YtjfffcjjlnmneaaGreatVG
import Derived.Laws.MakeOwn
namespace Go.KL
open Go.RowKit
section
variable {N : Nat} {P : Program} {l : List Oper} {Q : Post} {D : List Deferred} {ks : List Nat} {σ : Env} {w : World} {i d : Nat} {s : Sch} {o : Oper} {B : Base} {φ : PHeap} {L : List Res}
theorem madeCells_one (v : Value) (n : Nat) : madeCells #[v] n = (List.replicate n v).toArray := by
  apply Array.ext'
  simp [madeCells, Nat.mod_one, List.map_const']
theorem flatMap_replicate1 {α : Type} {enc : α → List Value} {z : α} {v : Value} (h : enc z = [v]) (n : Nat) : List.flatMap enc (List.replicate n z) = List.replicate n v := by
  induction n with
  | zero => rfl
  | succ n ih => rw [List.replicate_succ, List.flatMap_cons, ih, h]; rfl
theorem OKS.makeSlice {α : Type} {t e : TypeId} {inf : TypeInfo} {x y : Operand} {n : Int} {v : Value} {enc : α → List Value} {z : α} {xs : List α} (ho : l[i]? = some o) (hd : o.dst = some d) (hN : Nat.blt d N = true) (hw : wanted l σ o = true) (hop : o.op = .makeSlice t x y)
    (ht : P.underlying t = some (.slice e)) (hi : P.info? e = some inf) (hz : inf.zero = some v) (hc : v.cells = #[v]) (hs : inf.size = 1) (henc : enc z = [v]) (hx : ev σ x = .int .i64 n) (hy : ev σ y = .int .i64 n) (hm : mkz inf.bytes n z = some xs) (hS : St B φ L w)
    (k : ∀ w' b, St B φ (.row (some ⟨b, 0, none⟩) xs.length e 1 (List.flatMap enc xs) :: L) w' → OKS N P l Q D ks s (upd σ d (.slice (some ⟨b, 0, none⟩) xs.length xs.length)) w') : OKS N P l Q D ks (.fx i s .stop) σ w := by
  unfold mkz at hm
  split at hm
  · rename_i h
    obtain ⟨h0, h1, h2⟩ := h
    cases hm
    obtain ⟨m, rfl⟩ := Int.eq_ofNat_of_zero_le h0
    have hr := run_makeSlice (P := P) w t e inf _ ht hi hz .i64 .i64 (m : Int) (m : Int) (by omega) (by omega) (by rw [hs, Int.toNat_natCast]; omega) h2 (by omega)
    simp only [hs, Int.toNat_natCast, Nat.mul_one, hc, madeCells_one] at hr
    simp only [Int.toNat_natCast, List.length_replicate, flatMap_replicate1 henc] at k
    have hmax : m ≤ maxLen := by
      have h16 : (16777216 : Nat) ≤ maxLen := by decide
      omega
    refine OKS.v (v := .slice (some ⟨w.heap.size, 0, none⟩) m m) (w' := w.alloc (.cells (List.replicate m v).toArray e)) ho hd hN hw ⟨by rw [hop]; rfl, ?_⟩ (.inr (alloc_keep w _))
      (k _ _ (hS.new (alloc_keep w _) (.inr ⟨_, (List.replicate m v).toArray, rfl, alloc_blk w _ e, by simp, hmax, by simp, by simp⟩) rfl (Nat.le_refl _)))
    simp [execOp, hop, hx, hy, hr, Result.andThen]
  · cases hm
/-- A slice of slices (or of other cells that hold addresses) is made: all nil. -/
theorem OKS.makeSliceR {α : Type} {t e : TypeId} {inf : TypeInfo} {x y : Operand} {n : Int} {v : Value} {z : α} {xs : List α} (ho : l[i]? = some o) (hd : o.dst = some d) (hN : Nat.blt d N = true) (hw : wanted l σ o = true) (hop : o.op = .makeSlice t x y)
    (ht : P.underlying t = some (.slice e)) (hi : P.info? e = some inf) (hz : inf.zero = some v) (hc : v.cells = #[v]) (hs : inf.size = 1) (hx : ev σ x = .int .i64 n) (hy : ev σ y = .int .i64 n) (hm : mkz inf.bytes n z = some xs) (hS : St B φ L w)
    (k : ∀ w' b, St B φ (.row (some ⟨b, 0, none⟩) xs.length e 1 (List.replicate xs.length v) :: L) w' → OKS N P l Q D ks s (upd σ d (.slice (some ⟨b, 0, none⟩) xs.length xs.length)) w') : OKS N P l Q D ks (.fx i s .stop) σ w := by
  unfold mkz at hm
  split at hm
  · rename_i h
    cases hm
    refine OKS.makeSlice (α := Value) (enc := fun v => [v]) (z := v) (xs := List.replicate n.toNat v) ho hd hN hw hop ht hi hz hc hs rfl hx hy (by unfold mkz; rw [if_pos h]) hS fun w' b h1 => ?_
    have h2 := k w' b
    rw [List.length_replicate] at h2
    rw [flatMap_replicate1 (enc := fun v => [v]) rfl, List.length_replicate] at h1
    rw [List.length_replicate]
    exact h2 h1
  · cases hm
theorem RlL.made {α : Type} {R : Rl α} {z : α} {v : Value} {by_ : Nat} {n : Int} {xs : List α} (h : R.r φ z [v]) (hm : mkz by_ n z = some xs) : RlL φ R xs (List.replicate xs.length v) := by
  unfold mkz at hm
  split at hm
  · cases hm
    rw [List.length_replicate]
    generalize n.toNat = k
    induction k with
    | zero => exact RlL.nil
    | succ k ih => rw [List.replicate_succ, List.replicate_succ]; exact RlL.cons h ih
  · cases hm
theorem Sl.cut {sz c n a b : Nat} {A : Option Addr} {cs : List Value} (h : Sl φ sz A c n cs) (hab : a ≤ b) (hb : b ≤ n) :
    Sl φ sz (if c = a then A else A.map (·.add (a * sz))) (c - a) (b - a) ((cs.drop (a * sz)).take ((b - a) * sz)) := by
  have hcap := h.cap
  have hl := h.len
  have h1 : (b - a) * sz = b * sz - a * sz := Nat.sub_mul _ _ _
  have h2 : a * sz ≤ b * sz := Nat.mul_le_mul_right _ hab
  have h3 : b * sz ≤ n * sz := Nat.mul_le_mul_right _ hb
  refine ⟨by rw [List.length_take, List.length_drop, hl]; omega, by omega, ?_⟩
  rcases h.mem with h0 | ⟨g, off, arr, T, fr, rfl, hp, hcs⟩
  · left; omega
  · by_cases hba : b = a
    · left; omega
    · right
      have hca : ¬ c = a := by omega
      refine ⟨g, off + a * sz, arr, T, fr, by rw [if_neg hca]; simp [Addr.add], hp, ?_⟩
      rw [← hcs, ← List.drop_drop, List.drop_take, List.take_take]
      congr 1
      omega
theorem flatMap_drop {α : Type} {f : α → List Value} {sz : Nat} (hf : ∀ a, (f a).length = sz) : ∀ (l : List α) (k : Nat), (List.flatMap f l).drop (k * sz) = List.flatMap f (l.drop k)
  | l, 0 => by simp
  | [], k + 1 => by simp
  | a :: l, k + 1 => by
    rw [List.flatMap_cons, List.drop_succ_cons, ← flatMap_drop hf l k, Nat.succ_mul, Nat.add_comm, ← hf a, ← List.drop_drop, List.drop_left]
theorem flatMap_part {α : Type} {f : α → List Value} {sz : Nat} (hf : ∀ a, (f a).length = sz) (l : List α) (k : Nat) {x : α} (h : l[k]? = some x) : ((List.flatMap f l).drop (k * sz)).take sz = f x := by
  obtain ⟨hk, rfl⟩ := List.getElem?_eq_some_iff.1 h
  rw [flatMap_drop hf, List.drop_eq_getElem_cons hk, List.flatMap_cons, List.take_left' (hf _)]
theorem flatMap_take {α : Type} {f : α → List Value} {sz : Nat} (hf : ∀ a, (f a).length = sz) : ∀ (l : List α) (k : Nat), (List.flatMap f l).take (k * sz) = List.flatMap f (l.take k)
  | l, 0 => by simp
  | [], k + 1 => by simp
  | a :: l, k + 1 => by
    rw [List.flatMap_cons, List.take_succ_cons, List.flatMap_cons, ← flatMap_take hf l k, Nat.succ_mul, Nat.add_comm]
    conv => lhs; rw [← hf a]
    rw [List.take_length_add_append, hf a]
theorem Sl.cutM {α : Type} {f : α → List Value} {sz c : Nat} {a b : Int} {A : Option Addr} {m xs : List α} (h : Sl φ sz A c m.length (List.flatMap f m)) (hf : ∀ a, (f a).length = sz) (hm : Go.KL.cut m a b = some xs) :
    Sl φ sz (if c = a.toNat then A else A.map (·.add (a.toNat * sz))) (c - a.toNat) xs.length (List.flatMap f xs) ∧ 0 ≤ a ∧ a ≤ b ∧ b ≤ m.length ∧ xs.length = b.toNat - a.toNat := by
  unfold Go.KL.cut at hm
  split at hm
  · rename_i h0
    obtain ⟨h1, h2, h3⟩ := h0
    cases hm
    have hl : ((m.drop a.toNat).take (b.toNat - a.toNat)).length = b.toNat - a.toNat := by rw [List.length_take, List.length_drop]; omega
    have := h.cut (a := a.toNat) (b := b.toNat) (by omega) (by omega)
    rw [flatMap_drop hf, flatMap_take hf] at this
    rw [hl]
    exact ⟨this, h1, h2, h3, rfl⟩
  · cases hm
theorem Runs.slc {t e sz n c : Nat} {x : Operand} {lo hi : Option Operand} {a b : Int} {A : Option Addr} (hop : o.op = .slice t x lo hi none) (hx : ev σ x = .slice A n c)
    (hlo : (∃ y, lo = some y ∧ ev σ y = .int .i64 a) ∨ (lo = none ∧ a = 0)) (hhi : (∃ y, hi = some y ∧ ev σ y = .int .i64 b) ∨ (hi = none ∧ b = n))
    (ht : ∀ w, (underlying t).run P w = .ok (.slice e) w) (hs : ∀ w, (sizeOf e).run P w = .ok sz w) (h0 : 0 ≤ a) (h1 : a ≤ b) (h2 : b ≤ n) (h3 : n ≤ c) :
    Runs P σ w o (.slice (if c = a.toNat then A else A.map (·.add (a.toNat * sz))) (b.toNat - a.toNat) (c - a.toNat)) w := by
  have hb0 : 0 ≤ b := by omega
  obtain ⟨b, rfl⟩ := Int.eq_ofNat_of_zero_le hb0
  obtain ⟨a, rfl⟩ := Int.eq_ofNat_of_zero_le h0
  have g1 : a ≤ b := by omega
  have g2 : b ≤ c := by omega
  have g3 : a ≤ n := by omega
  simp only [Int.toNat_natCast]
  refine ⟨by rw [hop]; rfl, ?_⟩
  rcases hlo with ⟨y, rfl, hy⟩ | ⟨rfl, ha⟩ <;> rcases hhi with ⟨z, rfl, hz⟩ | ⟨rfl, hb⟩
  · simp [execOp, hop, hx, hy, hz, ht, hs, g1, g2, g3, Instr.sliceAt, Instr.slice, Instr.sliceBounds, Instr.sliceBound, asIntOf, Result.andThen]
  · have hb' : b = n := by omega
    subst hb'
    simp [execOp, hop, hx, hy, ht, hs, g1, g2, g3, Instr.sliceAt, Instr.slice, Instr.sliceBounds, Instr.sliceBound, asIntOf, Result.andThen]
  · have ha' : a = 0 := by omega
    subst ha'
    simp [execOp, hop, hx, hz, ht, hs, g1, g2, g3, Instr.sliceAt, Instr.slice, Instr.sliceBounds, Instr.sliceBound, asIntOf, Result.andThen]
  · have ha' : a = 0 := by omega
    have hb' : b = n := by omega
    subst ha' hb'
    simp [execOp, hop, hx, ht, hs, Instr.sliceAt, Instr.slice, Instr.sliceBounds, Instr.sliceBound, asIntOf, Result.andThen]
/-! copies into an owned row -/
/-- ys is copied into m from a on, as far as m reaches. -/
theorem setN_eq (vs : List Value) : ∀ (l : List Value) (off : Nat), off + vs.length ≤ l.length → setN l off vs = l.take off ++ vs ++ l.drop (off + vs.length) := by
  induction vs with
  | nil => intro l off _; simp [setN]
  | cons v vs ih =>
    intro l off h
    simp only [List.length_cons] at h
    show setN (l.set off v) (off + 1) vs = _
    rw [ih _ _ (by rw [List.length_set]; omega)]
    have hlt : off < l.length := by omega
    rw [List.drop_set_of_lt (by omega), List.take_add_one, List.getElem?_set_self hlt, List.take_set_of_le (Nat.le_refl _)]
    rw [List.length_cons, show off + (vs.length + 1) = off + 1 + vs.length from by omega]
    simp
theorem setN_cpy {α : Type} {f : α → List Value} {sz : Nat} (hf : ∀ x, (f x).length = sz) (m ys : List α) (a : Nat) (h : a + min (m.length - a) ys.length ≤ m.length) :
    setN (m.flatMap f) (a * sz) ((ys.take (m.length - a)).flatMap f) = (cpy m a ys).flatMap f := by
  have hl : ((ys.take (m.length - a)).flatMap f).length = min (m.length - a) ys.length * sz := by rw [flatMap_len hf, List.length_take]
  rw [setN_eq _ _ _ (by rw [hl, flatMap_len hf, ← Nat.add_mul]; exact Nat.mul_le_mul_right _ h), hl, ← Nat.add_mul, flatMap_take hf, flatMap_drop hf]
  unfold cpy
  rw [List.flatMap_append, List.flatMap_append]
  congr 2
  by_cases q : ys.length ≤ m.length - a
  · rw [Nat.min_eq_right q]
  · rw [Nat.min_eq_left (by omega), List.drop_eq_nil_of_le (by omega), List.drop_eq_nil_of_le (by omega)]
theorem OKS.copyR {x y : Operand} {tys : Array TypeId} {t e sz sz0 n c m c2 k off b0 j c0 T : Nat} {A A1 A2 : Option Addr} {cs cs' NS : List Value} (ho : l[i]? = some o) (hd : o.dst = some d) (hN : Nat.blt d N = true) (hw : wanted l σ o = true)
    (hop : o.op = .call { callee := .builtin .copy, args := #[x, y], argTypes := tys }) (ht0 : tys[0]? = some t) (ht : ∀ w, (underlying t).run P w = .ok (.slice e) w) (hsz : ∀ w, (sizeOf e).run P w = .ok sz w) (hS : St B φ L w) (hk : L[j]? = some (.row A c0 T sz0 cs)) (hA : A = some ⟨b0, 0, none⟩)
    (hx : ev σ x = .slice A1 n c) (hA1 : n = 0 ∨ A1 = some ⟨b0, off, none⟩) (hy : ev σ y = .slice A2 m c2) (hkk : min m n = k) (hNS : NS.length = k * sz) (hsrc : k = 0 ∨ ∃ a, A2 = some a ∧ ∀ j u, NS[j]? = some u → w.cell? (a.add j) = some u)
    (h1 : NS.all one = true) (hlt : off + NS.length ≤ cs.length) (hcs : setN cs off NS = cs') (hne : mustX (kOf ks i) = false)
    (kk : ∀ w', St B φ (L.set j (.row A c0 T sz0 cs')) w' → OKS N P l Q D ks s (upd σ d (.int .i64 k)) w') : OKS N P l Q D ks (.fx i s .stop) σ w := by
  have hj : j < L.length := (List.getElem?_eq_some_iff.1 hk).1
  rcases Nat.eq_zero_or_pos k with h0 | h0
  · have hN0 : NS = [] := List.eq_nil_of_length_eq_zero (by rw [hNS, h0]; simp)
    subst hN0 h0 hcs
    refine OKS.v ho hd hN hw (w' := w) (v := .int .i64 ((0 : Nat) : Int)) ⟨by rw [hop]; rfl, ?_⟩ (.inl hne) (kk w (by
      have : L.set j (.row A c0 T sz0 (setN cs off [])) = L := by
        show L.set j (.row A c0 T sz0 cs) = L
        obtain ⟨_, he⟩ := List.getElem?_eq_some_iff.1 hk
        rw [← he, List.set_getElem_self]
      rw [this]; exact hS))
    have hmin : Nat.min m n = 0 := hkk
    have hf0 : ∀ w1 : World, (Builtin.firstCells sz 0 (.slice A2 m c2)).run P w1 = .ok #[] w1 := by
      intro w1
      cases A2 with
      | none => simp [Builtin.firstCells]
      | some ad => simpa using run_firstCells_some (P := P) w1 sz 0 ad m c2 [] (by simp) (by simp)
    cases A1 with
    | none => simp [execOp, hop, ht0, resolve, invoke, builtin, Builtin.copy_, ht, hx, hy, Builtin.lenOf, hmin, hsz, hf0, storeCells, goInt, Result.andThen]
    | some a1 => simp [execOp, hop, ht0, resolve, invoke, builtin, Builtin.copy_, ht, hx, hy, Builtin.lenOf, hmin, hsz, hf0, storeCells, goInt, Result.andThen]
  · have hn0 : n ≠ 0 := by intro q; subst q; simp at hkk; omega
    have hA1 := hA1.resolve_left hn0
    subst hA hA1 hcs
    obtain ⟨a2, rfl, hcell⟩ := hsrc.resolve_left (by omega)
    obtain ⟨cur, g1, g2, g3, g4, g5⟩ := RowAt.cells (hS.at_ _ (List.mem_of_getElem? hk))
    have hB : Blk w b0 T cur.toList := by unfold Blk; rw [g1]
    have hcl : cs.length ≤ cur.toList.length := by rw [← g5]; simp; omega
    obtain ⟨w', h2, h3, h4, h5⟩ := run_storeCells (P := P) (T := T) off NS 0 cur.toList w hB (by omega) (List.all_eq_true.1 h1)
    have hmin : Nat.min m n = k := hkk
    have hf := run_firstCells_some (P := P) w sz k a2 m c2 NS hNS hcell
    refine OKS.v (w' := w') (v := .int .i64 (k : Int)) ho hd hN hw ⟨by rw [hop]; rfl, ?_⟩ (.inl hne) (kk w' (hS.set hk (h4.weak fun x _ e => by rw [e]; rfl) (.inr ⟨b0, (setN cur.toList (off + 0) NS).toArray, rfl, h3, ?_, g3, ?_, ?_⟩) fun b hb => .inl hb))
    · simp [execOp, hop, ht0, resolve, invoke, builtin, Builtin.copy_, ht, hx, hy, Builtin.lenOf, hmin, hsz, hf, h2, goInt, Result.andThen]
    · rw [setN_length]; exact g2
    · simp [setN_length, g4]
    · rw [setN_length, Nat.add_zero]
      show (setN cur.toList off NS).take cs.length = _
      rw [setN_take _ _ _ _ hlt, g5]
theorem cpyO_ok {α : Type} {m ys z : List α} {a : Int} (h : cpyO m a ys = some z) : 0 ≤ a ∧ a ≤ m.length ∧ z = cpy m a.toNat ys := by
  unfold cpyO at h
  split at h
  · rename_i q; cases h; exact ⟨q.1, q.2, rfl⟩
  · cases h
theorem cpyO_len {α : Type} {m ys z : List α} {a : Int} (h : cpyO m a ys = some z) : z.length = m.length := by
  obtain ⟨h0, h1, rfl⟩ := cpyO_ok h
  unfold cpy
  simp only [List.length_append, List.length_take, List.length_drop]
  omega
theorem cut_ok {α : Type} {m xs : List α} {a b : Int} (h : cut m a b = some xs) : 0 ≤ a ∧ a ≤ b ∧ b ≤ m.length ∧ xs = (m.drop a.toNat).take (b.toNat - a.toNat) ∧ xs.length = b.toNat - a.toNat := by
  unfold cut at h
  split at h
  · rename_i q; cases h; exact ⟨q.1, q.2.1, q.2.2, rfl, by rw [List.length_take, List.length_drop]; omega⟩
  · cases h
theorem St.rowCap {j c T sz n : Nat} {A : Option Addr} {cs : List Value} (hS : St B φ L w) (hk : L[j]? = some (.row A c T sz cs)) (hz : 0 < sz) (hn : cs.length = n * sz) : n ≤ c := by
  rcases hS.at_ _ (List.mem_of_getElem? hk) with ⟨_, _, rfl⟩ | ⟨b, cur, _, _, h2, _⟩
  · rcases Nat.eq_zero_or_pos n with h | h
    · omega
    · have := Nat.mul_pos h hz; simp at hn; omega
  · rw [hn] at h2
    exact Nat.le_of_mul_le_mul_right h2 hz
theorem cutA {A : Option Addr} {b0 c a n sz : Nat} (hA : A = some ⟨b0, 0, none⟩) (h : n ≤ c - a) : n = 0 ∨ (if c = a then A else A.map (·.add (a * sz))) = some ⟨b0, a * sz, none⟩ := by
  subst hA
  by_cases e : c = a
  · left; omega
  · right; rw [if_neg e]; simp [add_none]
theorem St.srcCut {α : Type} {f : α → List Value} {j c T sz b0 : Nat} {A : Option Addr} {m ys : List α} {a b : Int} (hS : St B φ L w) (hk : L[j]? = some (.row A c T sz (m.flatMap f))) (hf : ∀ x, (f x).length = sz) (hA : A = some ⟨b0, 0, none⟩) (h : cut m a b = some ys) (hcap : m.length ≤ c) :
    ys.length = 0 ∨ ∃ ad, (if c = a.toNat then A else A.map (·.add (a.toNat * sz))) = some ad ∧ ∀ j u, (ys.flatMap f)[j]? = some u → w.cell? (ad.add j) = some u := by
  obtain ⟨h0, h1, h2, rfl, hn⟩ := cut_ok h
  subst hA
  by_cases e : c = a.toNat
  · left; omega
  · right
    refine ⟨⟨b0, a.toNat * sz, none⟩, by rw [if_neg e]; simp [add_none], fun q u hu => ?_⟩
    rw [← flatMap_take hf, ← flatMap_drop hf, List.getElem?_take] at hu
    split at hu
    · rw [List.getElem?_drop] at hu
      have := hS.rowCell hk hu
      rw [add_none]; exact this
    · cases hu
theorem OKS.copyM {α : Type} {f : α → List Value} {x y : Operand} {tys : Array TypeId} {t e sz n c c2 b0 j c0 T : Nat} {A A1 A2 : Option Addr} {m ys z : List α} {a : Int} (ho : l[i]? = some o) (hd : o.dst = some d) (hN : Nat.blt d N = true) (hw : wanted l σ o = true)
    (hop : o.op = .call { callee := .builtin .copy, args := #[x, y], argTypes := tys }) (ht0 : tys[0]? = some t) (ht : ∀ w, (underlying t).run P w = .ok (.slice e) w) (hsz : ∀ w, (sizeOf e).run P w = .ok sz w) (hS : St B φ L w) (hk : L[j]? = some (.row A c0 T sz (m.flatMap f)))
    (hf : ∀ x, (f x).length = sz) (h1 : ∀ x, (f x).all one = true) (hA : A = some ⟨b0, 0, none⟩) (hz : cpyO m a ys = some z) (hx : ev σ x = .slice A1 n c) (hn : n = m.length - a.toNat) (hA1 : n = 0 ∨ A1 = some ⟨b0, a.toNat * sz, none⟩) (hy : ev σ y = .slice A2 ys.length c2)
    (hsrc : ys.length = 0 ∨ ∃ a, A2 = some a ∧ ∀ j u, (ys.flatMap f)[j]? = some u → w.cell? (a.add j) = some u) (hne : mustX (kOf ks i) = false)
    (kk : ∀ w', St B φ (L.set j (.row A c0 T sz (z.flatMap f))) w' → z.length = m.length → OKS N P l Q D ks s (upd σ d (.int .i64 ((min ys.length n : Nat) : Int))) w') : OKS N P l Q D ks (.fx i s .stop) σ w := by
  have hzl := cpyO_len hz
  obtain ⟨g0, g1, rfl⟩ := cpyO_ok hz
  subst hn
  have hl : ((ys.take (m.length - a.toNat)).flatMap f).length = min ys.length (m.length - a.toNat) * sz := by rw [flatMap_len hf, List.length_take, Nat.min_comm]
  refine OKS.copyR (cs := m.flatMap f) (NS := (ys.take (m.length - a.toNat)).flatMap f) (off := a.toNat * sz) ho hd hN hw hop ht0 ht hsz hS hk hA hx hA1 hy rfl hl ?_ ?_ ?_ (setN_cpy hf m ys a.toNat (by omega)) hne fun w' h' => kk w' h' hzl
  · rcases hsrc with h | ⟨ad, h, h'⟩
    · left; rw [h, Nat.zero_min]
    · right
      refine ⟨ad, h, fun q u hu => h' q u ?_⟩
      rw [← flatMap_take hf, List.getElem?_take] at hu
      split at hu
      · exact hu
      · cases hu
  · rw [List.all_flatMap]
    exact List.all_eq_true.2 fun x _ => h1 x
  · rw [hl, flatMap_len hf, ← Nat.add_mul]
    exact Nat.mul_le_mul_right _ (by omega)
end
end Go.KL
