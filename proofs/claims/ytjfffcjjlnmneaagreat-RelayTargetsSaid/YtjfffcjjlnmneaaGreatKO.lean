/- The operations, one rule each. -/
import Derived.Test.YtjfffcjjlnmneaaGreatKL
namespace Go.KL
open Go.RowKit

/-! ### Worlds -/
/-- The tape is the same, and is read on. -/
structure TapeLe (w w' : World) : Prop where
  eq : w'.tape = w.tape
  le : w.drawn ≤ w'.drawn
theorem TapeLe.trans {a b c : World} (k : TapeLe b c) (h : TapeLe a b) : TapeLe a c := ⟨k.eq.trans h.eq, Nat.le_trans h.le k.le⟩
theorem TapeLe.refl (w : World) : TapeLe w w := ⟨rfl, Nat.le_refl _⟩
structure Keep (w w' : World) (X : Nat → Prop) : Prop where
  os : w'.os = w.os
  tape : TapeLe w w'
  output : w'.output = w.output
  size : w.heap.size ≤ w'.heap.size
  block : ∀ k, k < w.heap.size → ¬ X k → w'.heap[k]? = w.heap[k]?
def Own (w : World) : Nat → Prop := fun i => w.heap.size ≤ i
abbrev Non : Nat → Prop := fun _ => False
theorem Keep.refl (w : World) (X : Nat → Prop) : Keep w w X := ⟨rfl, TapeLe.refl w, rfl, Nat.le_refl _, fun _ _ _ => rfl⟩
theorem Keep.step {a b c : World} {X Y : Nat → Prop} (h : Keep a b X) (k : Keep b c Y) (hs : ∀ i, i < a.heap.size → Y i → X i) : Keep a c X :=
  ⟨k.os.trans h.os, k.tape.trans h.tape, k.output.trans h.output, Nat.le_trans h.size k.size, fun i hi hx =>
    (k.block i (Nat.lt_of_lt_of_le hi h.size) (fun hy => hx (hs i hi hy))).trans (h.block i hi hx)⟩
theorem Keep.non {a b c : World} {X : Nat → Prop} (h : Keep a b X) (k : Keep b c Non) : Keep a c X := h.step k fun _ _ h => h.elim
theorem Keep.weak {a b : World} {X Y : Nat → Prop} (h : Keep a b Y) (hs : ∀ i, i < a.heap.size → Y i → X i) : Keep a b X :=
  ⟨h.os, h.tape, h.output, h.size, fun i hi hx => h.block i hi fun hy => hx (hs i hi hy)⟩
theorem Keep.below {a b : World} (h : Keep a b Non) : Below a.heap.size a b := ⟨h.os, h.tape.eq, h.output, h.size, fun k hk => h.block k hk id⟩
theorem Keep.drew (w : World) : Keep w { w with drawn := w.drawn + 1 } Non := ⟨rfl, ⟨rfl, Nat.le_succ _⟩, rfl, Nat.le_refl _, fun _ _ _ => rfl⟩
theorem Keep.stepB {a b c : World} {g : Nat} (h : Keep a b (Own a)) (k : Keep b c (· = g)) (hg : a.heap.size ≤ g) : Keep a c (Own a) := h.step k fun i hi e => by
  subst e; exact absurd hg (by omega)
theorem Keep.stepL {a b c : World} {gs : List Nat} (h : Keep a b (Own a)) (k : Keep b c (· ∈ gs)) (hg : ∀ g ∈ gs, a.heap.size ≤ g) : Keep a c (Own a) := h.step k fun i _ e => hg i e
theorem fm {p : Nat → Prop} {x : Nat} {l : List Nat} (h : p x) (hl : ∀ y ∈ l, p y) : ∀ y ∈ x :: l, p y := List.forall_mem_cons.2 ⟨h, hl⟩
theorem fn {p : Nat → Prop} : ∀ y ∈ ([] : List Nat), p y := by simp
theorem nl {x : Nat} {l : List Nat} (h : ∀ y ∈ l, y ≠ x) : ¬ x ∈ l := fun hm => h x hm rfl
theorem Keep.own {a b : World} (h : Keep a b (Own a)) : Keep a b Non := h.weak fun i hi ho => absurd hi (by unfold Own at ho; omega)
theorem ge_of {w0 w : World} {X : Nat → Prop} {b : Nat} (k : Keep w0 w X) (h : b = w.heap.size) : w0.heap.size ≤ b := h ▸ k.size
theorem Keep.cell {w w' : World} {X : Nat → Prop} (k : Keep w w' X) {b off : Nat} (hb : b < w.heap.size) (hx : ¬ X b) : w'.cell? ⟨b, off, none⟩ = w.cell? ⟨b, off, none⟩ :=
  World.cell?_of_block (k.block b hb hx)

def Blk (w : World) (b : Nat) (T : TypeId) (l : List Value) : Prop := w.heap[b]? = some (.cells l.toArray T (0, 0))
theorem Blk.lt {w : World} {b : Nat} {T : TypeId} {l : List Value} (h : Blk w b T l) : b < w.heap.size := by
  rcases Nat.lt_or_ge b w.heap.size with hlt | hge
  · exact hlt
  · unfold Blk at h; rw [Array.getElem?_eq_none hge] at h; cases h
theorem Blk.keep {w w' : World} {b : Nat} {T : TypeId} {l : List Value} {X : Nat → Prop} (h : Blk w b T l) (k : Keep w w' X) (hx : ¬ X b) : Blk w' b T l := (k.block b h.lt hx).trans h
theorem Blk.non {w w' : World} {b : Nat} {T : TypeId} {l : List Value} (h : Blk w b T l) (k : Keep w w' Non) : Blk w' b T l := h.keep k id
theorem Blk.arg {w w' : World} {b : Nat} {T : TypeId} {l : List Value} (h : Blk w b T l) (k : Keep w w' (Own w)) : Blk w' b T l := h.keep k fun ho => absurd h.lt (by unfold Own at ho; omega)
theorem Blk.cell {w : World} {b off : Nat} {T : TypeId} {l : List Value} {v : Value} (h : Blk w b T l) (hv : l[off]? = some v) : w.cell? ⟨b, off, none⟩ = some v := by
  unfold Blk at h
  simp [World.cell?, h, hv]
theorem Blk.frozen {w : World} {b off : Nat} {T : TypeId} {l : List Value} (h : Blk w b T l) : w.frozen? ⟨b, off, none⟩ = false := by
  unfold Blk at h
  simp [World.frozen?, h]
theorem Blk.ne {w : World} {b b' : Nat} {T T' : TypeId} {l l' : List Value} (h : Blk w b T l) (h' : Blk w b' T' l') (ht : T ≠ T') : b ≠ b' := by
  rintro rfl
  unfold Blk at h h'
  rw [h] at h'
  injection h' with h'
  injection h' with _ e
  exact ht e

theorem alloc_keep (w : World) (o : Obj) : Keep w (w.alloc o) Non := ⟨rfl, ⟨rfl, Nat.le_refl _⟩, rfl, by simp, fun k hk _ => Below.heap_alloc w o k hk⟩
theorem alloc_blk (w : World) (l : List Value) (T : TypeId) : Blk (w.alloc (.cells l.toArray T)) w.heap.size T l := by
  unfold Blk
  show (w.heap.push _)[w.heap.size]? = _
  simp
theorem alloc_size (w : World) (o : Obj) : (w.alloc o).heap.size = w.heap.size + 1 := by simp

theorem setCell_keep (w : World) (b off : Nat) (v : Value) : Keep w (w.setCell ⟨b, off, none⟩ v) (· = b) :=
  ⟨rfl, ⟨rfl, Nat.le_refl _⟩, rfl, by simp [World.setCell], fun k _ hx => Below.heap_setCell w _ v k hx⟩
theorem setCell_blk {w : World} {b : Nat} {T : TypeId} {l : List Value} (h : Blk w b T l) (off : Nat) (v : Value) : Blk (w.setCell ⟨b, off, none⟩ v) b T (l.set off v) := by
  unfold Blk at h ⊢
  simp [World.setCell, Array.getElem?_modify, h]
theorem setCell_size (w : World) (a : Addr) (v : Value) : (w.setCell a v).heap.size = w.heap.size := by simp [World.setCell]

def setN : List Value → Nat → List Value → List Value
  | l, _, [] => l
  | l, off, v :: vs => setN (l.set off v) (off + 1) vs
theorem setN_length (l : List Value) (off : Nat) (vs : List Value) : (setN l off vs).length = l.length := by
  induction vs generalizing l off with
  | nil => rfl
  | cons v vs ih => simp [setN, ih]
def one (v : Value) : Bool :=
  match v with
  | .agg _ | .tuple _ => false
  | _ => true

theorem run_store1 {P : Program} {w : World} {b off : Nat} {T : TypeId} {l : List Value} {v : Value} (h : Blk w b T l) (hlt : off < l.length) (h1 : one v = true) :
    (store ⟨b, off, none⟩ v).run P w = .ok () (w.setCell ⟨b, off, none⟩ v) := by
  have hc : w.cell? ⟨b, off, none⟩ = some (l[off]'hlt) := h.cell (List.getElem?_eq_getElem hlt)
  have hf := h.frozen (off := off)
  cases v <;> simp [store, Sem.run, hc, hf, one] at h1 ⊢

theorem run_storeCells {P : Program} {b : Nat} {T : TypeId} (off : Nat) (vs : List Value) : ∀ (i : Nat) (l : List Value) (w : World), Blk w b T l → off + i + vs.length ≤ l.length → (∀ v ∈ vs, one v = true) →
    ∃ w', (storeCells ⟨b, off, none⟩ vs i).run P w = .ok () w' ∧ Blk w' b T (setN l (off + i) vs) ∧ Keep w w' (· = b) ∧ w'.heap.size = w.heap.size := by
  induction vs with
  | nil => intro i l w h _ _; exact ⟨w, by simp [storeCells], h, Keep.refl _ _, rfl⟩
  | cons v vs ih =>
    intro i l w h hle h1
    have hlt : off + i < l.length := by simp at hle; omega
    have hs := run_store1 (P := P) h hlt (h1 v (by simp))
    obtain ⟨w', h2, h3, h4, h5⟩ := ih (i + 1) (l.set (off + i) v) _ (setCell_blk h (off + i) v) (by simp at hle ⊢; omega) (fun u hu => h1 u (by simp [hu]))
    refine ⟨w', ?_, h3, (setCell_keep w b (off + i) v).step h4 (fun _ _ h => h), by rw [h5, setCell_size]⟩
    have ha : Addr.add ⟨b, off, none⟩ i = ⟨b, off + i, none⟩ := by unfold Addr.add; split <;> simp_all
    simp only [storeCells, Sem.run_bind, ha, hs, Result.andThen_ok]
    exact h2

section
variable {r : Option Nat} {N : Nat} {P : Program} {ops : List Oper} {Q : Post} {D : List Deferred} {σ : Env} {w w' : World} {rest : List Oper} {o : Oper} {d : Nat}

theorem OK.mv {x : Operand} (hw : wanted ops σ o = true) (hd : o.dst = some d) (hdN : Nat.blt d N = true) (ho : o.op = .move x)
    (k : OK r N P ops Q rest D (upd σ d (ev σ x)) w) : OK r N P ops Q (o :: rest) D σ w :=
  OK.val hw hd hdN ⟨by rw [ho]; rfl, by simp [execOp, ho]⟩ k
theorem OK.as {x : Operand} (hw : wanted ops σ o = true) (hd : o.dst = some d) (hdN : Nat.blt d N = true) (ho : o.op = .assign x)
    (k : OK r N P ops Q rest D (upd σ d (ev σ x)) w) : OK r N P ops Q (o :: rest) D σ w :=
  OK.val hw hd hdN ⟨by rw [ho]; rfl, by simp [execOp, ho]⟩ k
theorem OK.pickT {c x y : Operand} (hw : wanted ops σ o = true) (hd : o.dst = some d) (hdN : Nat.blt d N = true) (ho : o.op = .pick c x y) (hc : ev σ c = .bool true)
    (k : OK r N P ops Q rest D (upd σ d (ev σ x)) w) : OK r N P ops Q (o :: rest) D σ w :=
  OK.val hw hd hdN ⟨by rw [ho]; rfl, by simp [execOp, ho, hc, asBool]⟩ k
theorem OK.pickF {c x y : Operand} (hw : wanted ops σ o = true) (hd : o.dst = some d) (hdN : Nat.blt d N = true) (ho : o.op = .pick c x y) (hc : ev σ c = .bool false)
    (k : OK r N P ops Q rest D (upd σ d (ev σ y)) w) : OK r N P ops Q (o :: rest) D σ w :=
  OK.val hw hd hdN ⟨by rw [ho]; rfl, by simp [execOp, ho, hc, asBool]⟩ k

theorem Runs.mv {x : Operand} {v : Value} (ho : o.op = .move x) (hx : ev σ x = v) : Runs P σ w o v w := ⟨by rw [ho]; rfl, by simp [execOp, ho, hx]⟩
theorem Runs.as {x : Operand} {v : Value} (ho : o.op = .assign x) (hx : ev σ x = v) : Runs P σ w o v w := ⟨by rw [ho]; rfl, by simp [execOp, ho, hx]⟩
theorem Runs.pickT {c x y : Operand} {v : Value} (ho : o.op = .pick c x y) (hc : ev σ c = .bool true) (hx : ev σ x = v) : Runs P σ w o v w := ⟨by rw [ho]; rfl, by simp [execOp, ho, hc, hx, asBool]⟩
theorem Runs.pickF {c x y : Operand} {v : Value} (ho : o.op = .pick c x y) (hc : ev σ c = .bool false) (hx : ev σ y = v) : Runs P σ w o v w := ⟨by rw [ho]; rfl, by simp [execOp, ho, hc, hx, asBool]⟩
theorem Runs.ext {x : Operand} {i : Nat} {vs : Array Value} {v : Value} (ho : o.op = .extract x i) (hx : ev σ x = .tuple vs) (hv : vs[i]? = some v) : Runs P σ w o v w :=
  ⟨by rw [ho]; rfl, by simp [execOp, ho, Instr.extract, hx, hv]⟩
theorem Runs.nilp {x : Operand} {a : Addr} (ho : o.op = .nilCheck x) (hx : ev σ x = .pointer (some a)) : Runs P σ w o (.pointer (some a)) w :=
  ⟨by rw [ho]; rfl, by simp [execOp, ho, hx]⟩
theorem Runs.nilf {x : Operand} {f : FuncId} {a b : Array Value} (ho : o.op = .nilCheck x) (hx : ev σ x = .func (.func f) a b) : Runs P σ w o (.func (.func f) a b) w :=
  ⟨by rw [ho]; rfl, by simp [execOp, ho, hx]⟩
theorem Runs.nily {x : Operand} {f : Nat} {a b : Array Value} (ho : o.op = .nilCheck x) (hx : ev σ x = .func (.yield f) a b) : Runs P σ w o (.func (.yield f) a b) w :=
  ⟨by rw [ho]; rfl, by simp [execOp, ho, hx]⟩
theorem Runs.mkf {fn : Go.Fn} {fl cl : List Operand} {fv cv : List Value} (ho : o.op = .makeFunc fn fl.toArray cl.toArray) (hf : List.map (ev σ) fl = fv) (hc : List.map (ev σ) cl = cv) : Runs P σ w o (.func fn fv.toArray cv.toArray) w :=
  ⟨by rw [ho]; rfl, by subst hf hc; simp [execOp, ho, Instr.makeFunc]⟩

theorem add_none (b off n : Nat) : Addr.add ⟨b, off, none⟩ n = ⟨b, off + n, none⟩ := by unfold Addr.add; split <;> simp_all

/-! loads -/
theorem Runs.ld {t : TypeId} {x : Operand} {a : Addr} {v : Value} (ho : o.op = .load t x) (hx : ev σ x = .pointer (some a)) (hag : ∀ w, (isAgg t).run P w = .ok false w) (hc : w.cell? a = some v) : Runs P σ w o v w :=
  ⟨by rw [ho]; rfl, by simp [execOp, ho, Instr.loadAt, hx, Instr.sureAddr, loadVar, hag, load, Sem.run, hc]⟩
theorem run_loadCellsFrom {P : Program} {w : World} {b off : Nat} (vs : List Value) : ∀ (i : Nat) (acc : Array Value), (∀ j v, vs[j]? = some v → w.cell? ⟨b, off + i + j, none⟩ = some v) →
    (loadCellsFrom ⟨b, off, none⟩ i vs.length acc).run P w = .ok (acc ++ vs.toArray) w := by
  induction vs with
  | nil => intro i acc _; simp [loadCellsFrom]
  | cons v vs ih =>
    intro i acc h
    have h0 := h 0 v rfl
    simp only [Nat.add_zero] at h0
    have := ih (i + 1) (acc.push v) (fun j u hu => by have := h (j + 1) u (by simpa using hu); rw [show off + (i + 1) + j = off + i + (j + 1) from by omega]; exact this)
    simp only [List.length_cons, loadCellsFrom, Sem.run_bind, add_none]
    simp only [load, Sem.run, h0, Result.andThen_ok]
    rw [this]
    simp
theorem run_loadCells {P : Program} {w : World} {b off n : Nat} (vs : List Value) (hn : vs.length = n) (h : ∀ j v, vs[j]? = some v → w.cell? ⟨b, off + j, none⟩ = some v) :
    (loadCells ⟨b, off, none⟩ n).run P w = .ok vs.toArray w := by
  subst hn
  have := run_loadCellsFrom (P := P) (w := w) (b := b) (off := off) vs 0 #[] (by simpa using h)
  simpa [loadCells] using this
theorem Runs.ldA {t : TypeId} {x : Operand} {b off n : Nat} {vs : List Value} (ho : o.op = .load t x) (hx : ev σ x = .pointer (some ⟨b, off, none⟩)) (hag : ∀ w, (isAgg t).run P w = .ok true w)
    (hsz : ∀ w, (sizeOf t).run P w = .ok n w) (hn : vs.length = n) (h : ∀ j v, vs[j]? = some v → w.cell? ⟨b, off + j, none⟩ = some v) : Runs P σ w o (.agg vs.toArray) w :=
  ⟨by rw [ho]; rfl, by simp [execOp, ho, Instr.loadAt, hx, Instr.sureAddr, loadVar, hag, hsz, run_loadCells vs hn h]⟩
theorem Blk.cells {w : World} {b off n : Nat} {T : TypeId} {l vs : List Value} (h : Blk w b T l) (hv : (l.drop off).take n = vs) : ∀ j v, vs[j]? = some v → w.cell? ⟨b, off + j, none⟩ = some v := by
  intro j v hj
  subst hv
  refine h.cell ?_
  rw [List.getElem?_take] at hj
  split at hj
  · rwa [List.getElem?_drop] at hj
  · cases hj
theorem Runs.ldB {t T : TypeId} {x : Operand} {b off : Nat} {l : List Value} {v : Value} (ho : o.op = .load t x) (hx : ev σ x = .pointer (some ⟨b, off, none⟩)) (hag : ∀ w, (isAgg t).run P w = .ok false w)
    (hB : Blk w b T l) (hv : l[off]? = some v) : Runs P σ w o v w := Runs.ld ho hx hag (hB.cell hv)
theorem Runs.ldBA {t T : TypeId} {x : Operand} {b off n : Nat} {l vs : List Value} (ho : o.op = .load t x) (hx : ev σ x = .pointer (some ⟨b, off, none⟩)) (hag : ∀ w, (isAgg t).run P w = .ok true w)
    (hsz : ∀ w, (sizeOf t).run P w = .ok n w) (hB : Blk w b T l) (hv : (l.drop off).take n = vs) (hn : vs.length = n) : Runs P σ w o (.agg vs.toArray) w :=
  Runs.ldA ho hx hag hsz hn (hB.cells hv)

/-! addresses -/
theorem Runs.fa {s : TypeId} {x : Operand} {i b off n : Nat} {fs : Array Field} {fl : Field} (ho : o.op = .fieldAddr s x i) (hx : ev σ x = .pointer (some ⟨b, off, none⟩))
    (hs : ∀ w, (underlying s).run P w = .ok (.struct fs) w) (hf : fs[i]? = some fl) (hsz : ∀ w, (sizeOf fl.type).run P w = .ok (n + 1) w) : Runs P σ w o (.pointer (some ⟨b, off + fl.offset, none⟩)) w :=
  ⟨by rw [ho]; rfl, by simp [execOp, ho, Instr.fieldAt, hs, hf, hx, Instr.sureAddr, fieldPlace, hsz, add_none]⟩
theorem Runs.ia {t e : TypeId} {x y : Operand} {b off len cap sz : Nat} {i : Int} (ho : o.op = .indexAddr t x y) (hx : ev σ x = .slice (some ⟨b, off, none⟩) len cap) (hy : ev σ y = .int .i64 i)
    (ht : ∀ w, (underlying t).run P w = .ok (.slice e) w) (hsz : ∀ w, (sizeOf e).run P w = .ok sz w) (h0 : 0 ≤ i) (h1 : i < len) : Runs P σ w o (.pointer (some ⟨b, off + i.toNat * sz, none⟩)) w :=
  ⟨by rw [ho]; rfl, by simp [execOp, ho, Instr.indexAt, hx, hy, asIntOf, ht, hsz, h0, h1, add_none]⟩
theorem Runs.iaA {t e : TypeId} {x y : Operand} {b off len sz : Nat} {i : Int} (ho : o.op = .indexAddr t x y) (hx : ev σ x = .pointer (some ⟨b, off, none⟩)) (hy : ev σ y = .int .i64 i)
    (ht : ∀ w, (underlying t).run P w = .ok (.array len e) w) (hsz : ∀ w, (sizeOf e).run P w = .ok sz w) (h0 : 0 ≤ i) (h1 : i < len) : Runs P σ w o (.pointer (some ⟨b, off + i.toNat * sz, none⟩)) w :=
  ⟨by rw [ho]; rfl, by simp [execOp, ho, Instr.indexAt, Instr.sureAddr, hx, hy, asIntOf, ht, hsz, h0, h1, add_none]⟩
theorem run_part {P : Program} {w : World} {e n off : Nat} {cs vs : List Value} (hag : ∀ w, (isAgg e).run P w = .ok true w) (hsz : ∀ w, (sizeOf e).run P w = .ok n w) (hv : (cs.drop off).take n = vs) :
    (part e cs.toArray off).run P w = .ok (.agg vs.toArray) w := by
  subst hv
  simp [part, hag, hsz, List.extract_eq_take_drop]
theorem run_part1 {P : Program} {w : World} {e off : Nat} {cs : List Value} {v : Value} (hag : ∀ w, (isAgg e).run P w = .ok false w) (hv : cs[off]? = some v) :
    (part e cs.toArray off).run P w = .ok v w := by
  simp [part, hag, hv]
theorem Runs.ixA {t e : TypeId} {x y : Operand} {len sz : Nat} {i : Int} {cs : List Value} {v : Value} (ho : o.op = .index t x y) (hx : ev σ x = .agg cs.toArray) (hy : ev σ y = .int .i64 i)
    (ht : ∀ w, (underlying t).run P w = .ok (.array len e) w) (hsz : ∀ w, (sizeOf e).run P w = .ok sz w) (h0 : 0 ≤ i) (h1 : i < len) (hp : (part e cs.toArray (i.toNat * sz)).run P w = .ok v w) : Runs P σ w o v w :=
  ⟨by rw [ho]; rfl, by simp [execOp, ho, Instr.index, hx, hy, asIntOf, ht, hsz, h0, h1, hp]⟩
theorem Runs.fld {s : TypeId} {x : Operand} {i : Nat} {fs : Array Field} {fl : Field} {cs : List Value} {v : Value} (ho : o.op = .field s x i) (hx : ev σ x = .agg cs.toArray)
    (hs : ∀ w, (underlying s).run P w = .ok (.struct fs) w) (hf : fs[i]? = some fl) (hp : (part fl.type cs.toArray fl.offset).run P w = .ok v w) : Runs P σ w o v w :=
  ⟨by rw [ho]; rfl, by simp [execOp, ho, Instr.field, hs, hf, hx, asAgg, hp]⟩

/-! new blocks, stores -/
theorem OK.alloc {t : TypeId} {z : Value} {cs : List Value} (hw : wanted ops σ o = true) (hd : o.dst = some d) (hdN : Nat.blt d N = true) (ho : o.op = .alloc t)
    (hz : ∀ w, (zeroValue t).run P w = .ok z w) (hc : z.cells = cs.toArray)
    (k : ∀ w' b, b = w.heap.size → Blk w' b t cs → Keep w w' Non → w'.heap.size = w.heap.size + 1 → OK r N P ops Q rest D (upd σ d (.pointer (some ⟨b, 0, none⟩))) w') : OK r N P ops Q (o :: rest) D σ w := by
  refine OK.val (v := .pointer (some ⟨w.heap.size, 0, none⟩)) (w' := w.alloc (.cells cs.toArray t)) hw hd hdN ⟨by rw [ho]; rfl, ?_⟩ (k _ _ rfl (alloc_blk w cs t) (alloc_keep w _) (alloc_size w _))
  simp [execOp, ho, Instr.alloc, hz, newVar, newRow, newObj, hc, Sem.run]
theorem OK.box {t : TypeId} {x : Operand} {v : Value} {cs : List Value} (hw : wanted ops σ o = true) (hd : o.dst = some d) (hdN : Nat.blt d N = true) (ho : o.op = .box t x)
    (hx : ev σ x = v) (hc : v.cells = cs.toArray)
    (k : ∀ w' b, b = w.heap.size → Blk w' b t cs → Keep w w' Non → w'.heap.size = w.heap.size + 1 → OK r N P ops Q rest D (upd σ d (.pointer (some ⟨b, 0, none⟩))) w') : OK r N P ops Q (o :: rest) D σ w := by
  subst hx
  refine OK.val (v := .pointer (some ⟨w.heap.size, 0, none⟩)) (w' := w.alloc (.cells cs.toArray t)) hw hd hdN ⟨by rw [ho]; rfl, ?_⟩ (k _ _ rfl (alloc_blk w cs t) (alloc_keep w _) (alloc_size w _))
  simp [execOp, ho, Instr.box, newVar, newRow, newObj, hc, Sem.run]
theorem OK.st {t T : TypeId} {x y : Operand} {b off : Nat} {v : Value} {vs l : List Value} (hw : wanted ops σ o = true) (hd : o.dst = none) (ho : o.op = .store t x y)
    (hx : ev σ x = .pointer (some ⟨b, off, none⟩)) (hy : ev σ y = v) (hc : v.cells = vs.toArray) (hsz : ∀ w, (sizeOf t).run P w = .ok vs.length w) (hB : Blk w b T l) (hlt : off + vs.length ≤ l.length) (h1 : vs.all one = true)
    (k : ∀ w', Blk w' b T (setN l off vs) → Keep w w' (· = b) → w'.heap.size = w.heap.size → OK r N P ops Q rest D σ w') : OK r N P ops Q (o :: rest) D σ w := by
  subst hy
  obtain ⟨w', h2, h3, h4, h5⟩ := run_storeCells (P := P) (T := T) off vs 0 l w hB hlt (List.all_eq_true.1 h1)
  refine OK.unit (w' := w') hw hd ⟨by rw [ho]; rfl, ?_⟩ (k w' h3 h4 h5)
  simp [execOp, ho, Instr.storeAt, hx, Instr.sureAddr, storeVar, hc, hsz, h2]
theorem one1 {v : Value} (h : one v = true) : ∀ u ∈ [v], one u = true := by simpa using h

/-! numbers -/
theorem Runs.add {t u : TypeId} {x y : Operand} {m n : Int} (ho : o.op = .binOp .add t x y u) (hx : ev σ x = .int .i64 m) (hy : ev σ y = .int .i64 n)
    (h1 : -9223372036854775808 ≤ m + n) (h2 : m + n ≤ 9223372036854775807) : Runs P σ w o (.int .i64 (m + n)) w :=
  ⟨by rw [ho]; rfl, by simp [execOp, ho, hx, hy, binOp, eqGuard, Op.intArith, IntWalk.i64_in _ ⟨h1, h2⟩]⟩
theorem Runs.sub {t u : TypeId} {x y : Operand} {m n : Int} (ho : o.op = .binOp .sub t x y u) (hx : ev σ x = .int .i64 m) (hy : ev σ y = .int .i64 n)
    (h1 : -9223372036854775808 ≤ m - n) (h2 : m - n ≤ 9223372036854775807) : Runs P σ w o (.int .i64 (m - n)) w :=
  ⟨by rw [ho]; rfl, by simp [execOp, ho, hx, hy, binOp, eqGuard, Op.intArith, IntWalk.i64_in _ ⟨h1, h2⟩]⟩
theorem Runs.mul {t u : TypeId} {x y : Operand} {m n : Int} (ho : o.op = .binOp .mul t x y u) (hx : ev σ x = .int .i64 m) (hy : ev σ y = .int .i64 n)
    (h1 : -9223372036854775808 ≤ m * n) (h2 : m * n ≤ 9223372036854775807) : Runs P σ w o (.int .i64 (m * n)) w :=
  ⟨by rw [ho]; rfl, by simp [execOp, ho, hx, hy, binOp, eqGuard, Op.intArith, IntWalk.i64_in _ ⟨h1, h2⟩]⟩
theorem Runs.neg {t : TypeId} {x : Operand} {m : Int} (ho : o.op = .unOp .neg t x) (hx : ev σ x = .int .i64 m)
    (h1 : -9223372036854775808 ≤ -m) (h2 : -m ≤ 9223372036854775807) : Runs P σ w o (.int .i64 (-m)) w :=
  ⟨by rw [ho]; rfl, by
    have := IntWalk.i64_in (-m) ⟨h1, h2⟩
    simp only [execOp, ho, hx, Op.unary, Op.intArith, Sem.run_bind, Sem.run_pure, Result.andThen_ok, Int.zero_sub, this]⟩
theorem Runs.not {t : TypeId} {x : Operand} {b : Bool} (ho : o.op = .unOp .not t x) (hx : ev σ x = .bool b) : Runs P σ w o (.bool !b) w :=
  ⟨by rw [ho]; rfl, by simp [execOp, ho, hx, Op.unary]⟩
theorem Runs.notP {t : TypeId} {x : Operand} {p : Prop} [Decidable p] (ho : o.op = .unOp .not t x) (hx : ev σ x = .bool (decide p)) : Runs P σ w o (.bool (decide (¬ p))) w :=
  ⟨by rw [ho]; rfl, by simp [execOp, ho, hx, Op.unary]⟩
theorem Runs.lss {t u : TypeId} {k : IntKind} {x y : Operand} {m n : Int} (ho : o.op = .binOp .lss t x y u) (hx : ev σ x = .int k m) (hy : ev σ y = .int k n) : Runs P σ w o (.bool (decide (m < n))) w :=
  ⟨by rw [ho]; rfl, by simp [execOp, ho, hx, hy, binOp, eqGuard, Op.intCmp]⟩
theorem Runs.leq {t u : TypeId} {k : IntKind} {x y : Operand} {m n : Int} (ho : o.op = .binOp .leq t x y u) (hx : ev σ x = .int k m) (hy : ev σ y = .int k n) : Runs P σ w o (.bool (decide (m ≤ n))) w :=
  ⟨by rw [ho]; rfl, by simp [execOp, ho, hx, hy, binOp, eqGuard, Op.intCmp]⟩
theorem Runs.gtr {t u : TypeId} {k : IntKind} {x y : Operand} {m n : Int} (ho : o.op = .binOp .gtr t x y u) (hx : ev σ x = .int k m) (hy : ev σ y = .int k n) : Runs P σ w o (.bool (decide (n < m))) w :=
  ⟨by rw [ho]; rfl, by simp [execOp, ho, hx, hy, binOp, eqGuard, Op.intCmp]⟩
theorem Runs.geq {t u : TypeId} {k : IntKind} {x y : Operand} {m n : Int} (ho : o.op = .binOp .geq t x y u) (hx : ev σ x = .int k m) (hy : ev σ y = .int k n) : Runs P σ w o (.bool (decide (n ≤ m))) w :=
  ⟨by rw [ho]; rfl, by simp [execOp, ho, hx, hy, binOp, eqGuard, Op.intCmp]⟩
theorem int_beq (m n : Int) : (m == n) = decide (m = n) := by by_cases h : m = n <;> simp [h]
theorem Runs.eql {t u : TypeId} {k : IntKind} {x y : Operand} {m n : Int} (ho : o.op = .binOp .eql t x y u) (hx : ev σ x = .int k m) (hy : ev σ y = .int k n) : Runs P σ w o (.bool (decide (m = n))) w :=
  ⟨by rw [ho]; rfl, by simp [execOp, ho, hx, hy, binOp, eqGuard, Op.intCmp, int_beq]⟩
theorem Runs.neq {t u : TypeId} {k : IntKind} {x y : Operand} {m n : Int} (ho : o.op = .binOp .neq t x y u) (hx : ev σ x = .int k m) (hy : ev σ y = .int k n) : Runs P σ w o (.bool (decide (m ≠ n))) w :=
  ⟨by rw [ho]; rfl, by simp [execOp, ho, hx, hy, binOp, eqGuard, Op.intCmp, bne, int_beq]⟩
theorem Runs.to {v v' : Value} (h : Runs P σ w o v w') (e : v = v') : Runs P σ w o v' w' := e ▸ h
theorem bool_dec {b : Bool} {p : Prop} [Decidable p] (h : b = true ↔ p) : b = decide p := by cases b <;> simp_all
theorem bool_decN {b : Bool} {p : Prop} [Decidable p] (h : ¬ (b = true) ↔ p) : (!b) = decide p := by cases b <;> simp_all
theorem decT {p : Prop} [Decidable p] (h : p) : Value.bool (decide p) = .bool true := by simp [h]
theorem decF {p : Prop} [Decidable p] (h : ¬ p) : Value.bool (decide p) = .bool false := by simp [h]
theorem Runs.cvt {s t : TypeId} {k : IntKind} {x : Operand} {m : Int} {u : TypeDesc} (ho : o.op = .convert s t x) (hx : ev σ x = .int .i64 m) (hs : ∀ w, (underlying s).run P w = .ok (.int k) w) (ht : ∀ w, (underlying t).run P w = .ok u w) (hu : u = .int .i64)
    (h1 : -9223372036854775808 ≤ m) (h2 : m ≤ 9223372036854775807) : Runs P σ w o (.int .i64 m) w :=
  ⟨by rw [ho]; rfl, by subst hu; simp [execOp, ho, hx, convert, hs, ht, Conv.intToInt, IntWalk.i64_in _ ⟨h1, h2⟩]⟩
/-! built-in functions -/
theorem Runs.len {t e : TypeId} {x : Operand} {a : Option Addr} {n c : Nat} (ho : o.op = .call { callee := .builtin .len, args := #[x], argTypes := #[t] }) (hx : ev σ x = .slice a n c)
    (ht : ∀ w, (underlying t).run P w = .ok (.slice e) w) : Runs P σ w o (.int .i64 n) w :=
  ⟨by rw [ho]; rfl, by simp [execOp, ho, resolve, invoke, builtin, Builtin.len_, hx, ht, goInt]⟩
end
end Go.KL
