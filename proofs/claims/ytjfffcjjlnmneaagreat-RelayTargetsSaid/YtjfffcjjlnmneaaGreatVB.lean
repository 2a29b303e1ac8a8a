/- Memory in a walk: what is frozen, what is owned. -/
import Derived.Test.YtjfffcjjlnmneaaGreatVA
import Derived.Maps.AppendAt
namespace Go.KL
open Go.RowKit

abbrev PHeap := Nat → Option Obj
inductive Res
  | blk (b : Nat) (T : TypeId) (cs : List Value)
  | row (A : Option Addr) (c : Nat) (T : TypeId) (sz : Nat) (cs : List Value)
  | obj (b : Nat) (o : Obj)
def Res.blk? : Res → Option Nat
  | .blk b _ _ => some b
  | .row A _ _ _ _ => A.map (·.block)
  | .obj b _ => some b
def RowAt (w : World) (A : Option Addr) (c : Nat) (T : TypeId) (sz : Nat) (cs : List Value) : Prop :=
  (A = none ∧ c = 0 ∧ cs = []) ∨ ∃ b cur, A = some ⟨b, 0, none⟩ ∧ w.heap[b]? = some (.cells cur T (0, 0)) ∧ cs.length ≤ c * sz ∧ c ≤ maxLen ∧ cur.size = c * sz ∧ cur.toList.take cs.length = cs
def Res.At (w : World) : Res → Prop
  | .blk b T cs => w.heap[b]? = some (.cells cs.toArray T (0, 0))
  | .row A c T sz cs => RowAt w A c T sz cs
  | .obj b o => w.heap[b]? = some o
structure Base where
  w : World
  own : List Res
  φ : PHeap
def Base.mine (B : Base) (b : Nat) : Prop := B.w.heap.size ≤ b ∨ ∃ r ∈ B.own, r.blk? = some b
structure St (B : Base) (φ : PHeap) (L : List Res) (w : World) : Prop where
  os : w.os = B.w.os
  tape : TapeLe B.w w
  output : w.output = B.w.output
  size : B.w.heap.size ≤ w.heap.size
  old : ∀ b, b < B.w.heap.size → ¬ B.mine b → w.heap[b]? = B.w.heap[b]?
  fro : ∀ b o, φ b = some o → w.heap[b]? = some o
  le : ∀ b o, B.φ b = some o → φ b = some o
  src : ∀ b o, φ b = some o → B.φ b = some o ∨ B.mine b
  at_ : ∀ r ∈ L, r.At w
  own : ∀ r ∈ L, ∀ b, r.blk? = some b → φ b = none ∧ B.mine b
  dj : ∀ (i j : Nat) (r s : Res) (b : Nat), L[i]? = some r → L[j]? = some s → r.blk? = some b → s.blk? = some b → i = j

theorem lt_of_some {w : World} {b : Nat} {o : Obj} (h : w.heap[b]? = some o) : b < w.heap.size := by
  rcases Nat.lt_or_ge b w.heap.size with hlt | hge
  · exact hlt
  · rw [Array.getElem?_eq_none hge] at h; cases h
theorem Res.At.lt {w : World} {r : Res} (h : r.At w) {b : Nat} (hb : r.blk? = some b) : b < w.heap.size := by
  cases r with
  | blk b' T cs => cases hb; exact lt_of_some h
  | obj b' o => cases hb; exact lt_of_some h
  | row A c T sz cs =>
    rcases h with ⟨rfl, _⟩ | ⟨b', cur, rfl, h1, _⟩
    · cases hb
    · cases hb; exact lt_of_some h1
theorem Res.At.keep {w w' : World} {X : Nat → Prop} {r : Res} (h : r.At w) (k : Keep w w' X) (hx : ∀ b, r.blk? = some b → ¬ X b) : r.At w' := by
  have hl := fun b hb => h.lt (b := b) hb
  cases r with
  | blk b' T cs => exact (k.block _ (hl _ rfl) (hx _ rfl)).trans h
  | obj b' o => exact (k.block _ (hl _ rfl) (hx _ rfl)).trans h
  | row A c T sz cs =>
    rcases h with h | ⟨b', cur, rfl, h1, h2⟩
    · exact .inl h
    · exact .inr ⟨b', cur, rfl, (k.block _ (hl _ rfl) (hx _ rfl)).trans h1, h2⟩

section
variable {B : Base} {φ φ' : PHeap} {L : List Res} {w w' : World}
theorem St.grow (h : St B φ L w) (k : Keep w w' Non) : St B φ L w' :=
  ⟨k.os.trans h.os, k.tape.trans h.tape, k.output.trans h.output, Nat.le_trans h.size k.size, fun b hb hm => (k.block b (Nat.lt_of_lt_of_le hb h.size) id).trans (h.old b hb hm),
   fun b o hb => (k.block b (lt_of_some (h.fro b o hb)) id).trans (h.fro b o hb), h.le, h.src, fun r hr => (h.at_ r hr).keep k fun _ _ h => h, h.own, h.dj⟩
theorem St.drew (h : St B φ L w) : St B φ L { w with drawn := w.drawn + 1 } := h.grow (Keep.drew w)
theorem St.new (h : St B φ L w) (k : Keep w w' Non) {r : Res} (hr : r.At w') {b : Nat} (hb : r.blk? = some b) (hn : w.heap.size ≤ b) : St B φ (r :: L) w' := by
  have h' := h.grow k
  have hφ : φ b = none := by
    cases e : φ b with
    | none => rfl
    | some o => have := lt_of_some (h.fro b o e); omega
  refine ⟨h'.os, h'.tape, h'.output, h'.size, h'.old, h'.fro, h'.le, h'.src, ?_, ?_, ?_⟩
  · intro s hs
    rcases List.mem_cons.1 hs with rfl | hs
    · exact hr
    · exact h'.at_ s hs
  · intro s hs c hc
    rcases List.mem_cons.1 hs with rfl | hs
    · rw [hb] at hc; cases hc
      exact ⟨hφ, .inl (Nat.le_trans h.size hn)⟩
    · exact h'.own s hs c hc
  · intro i j s t c hi hj hs ht
    have old : ∀ (i : Nat) (s : Res), L[i]? = some s → s.blk? = some c → c < w.heap.size := fun i s hi hs => (h.at_ s (List.mem_of_getElem? hi)).lt hs
    cases i with
    | zero =>
      simp only [List.getElem?_cons_zero, Option.some.injEq] at hi; subst hi
      rw [hb] at hs; cases hs
      cases j with
      | zero => rfl
      | succ j => have := old j t (by simpa using hj) ht; omega
    | succ i =>
      have h1 := old i s (by simpa using hi) hs
      cases j with
      | zero =>
        simp only [List.getElem?_cons_zero, Option.some.injEq] at hj; subst hj
        rw [hb] at ht; cases ht; omega
      | succ j => rw [h.dj i j s t c (by simpa using hi) (by simpa using hj) hs ht]
/-- A resource that holds no block. -/
theorem St.addNone (h : St B φ L w) {r : Res} (hr : r.At w) (hb : r.blk? = none) : St B φ (r :: L) w := by
  refine ⟨h.os, h.tape, h.output, h.size, h.old, h.fro, h.le, h.src, ?_, ?_, ?_⟩
  · intro s hs
    rcases List.mem_cons.1 hs with rfl | hs
    · exact hr
    · exact h.at_ s hs
  · intro s hs c hc
    rcases List.mem_cons.1 hs with rfl | hs
    · rw [hb] at hc; cases hc
    · exact h.own s hs c hc
  · intro i j s t c hi hj hs ht
    cases i with
    | zero => simp only [List.getElem?_cons_zero, Option.some.injEq] at hi; subst hi; rw [hb] at hs; cases hs
    | succ i =>
      cases j with
      | zero => simp only [List.getElem?_cons_zero, Option.some.injEq] at hj; subst hj; rw [hb] at ht; cases ht
      | succ j => rw [h.dj i j s t c (by simpa using hi) (by simpa using hj) hs ht]
theorem St.nilrow (h : St B φ L w) (T : TypeId) (sz : Nat) : St B φ (.row none 0 T sz [] :: L) w := h.addNone (.inl ⟨rfl, rfl, rfl⟩) rfl
/-- One resource is turned into another. -/
theorem St.set (h : St B φ L w) {k : Nat} {r r' : Res} (hk : L[k]? = some r) (K : Keep w w' fun b => r.blk? = some b) (hr : r'.At w') (hb : ∀ b, r'.blk? = some b → r.blk? = some b ∨ w.heap.size ≤ b) : St B φ (L.set k r') w' := by
  have hkl : k < L.length := (List.getElem?_eq_some_iff.1 hk).1
  have hrm := List.mem_of_getElem? hk
  have mine : ∀ b, r.blk? = some b → φ b = none ∧ B.mine b := fun b hb => h.own r hrm b hb
  have get : ∀ (i : Nat) (s : Res), (L.set k r')[i]? = some s → (i = k ∧ s = r') ∨ (i ≠ k ∧ L[i]? = some s) := by
    intro i s hi
    rw [List.getElem?_set] at hi
    by_cases e : k = i
    · subst e; rw [if_pos rfl, if_pos hkl] at hi; cases hi; exact .inl ⟨rfl, rfl⟩
    · rw [if_neg e] at hi; exact .inr ⟨fun h => e h.symm, hi⟩
  have oth : ∀ (i : Nat) (s : Res) (b : Nat), i ≠ k → L[i]? = some s → s.blk? = some b → r.blk? ≠ some b := fun i s b hne hi hs hrb => hne (h.dj i k s r b hi hk hs hrb)
  have hw : ∀ b, r'.blk? = some b → φ b = none ∧ B.mine b := by
    intro b hb'
    rcases hb b hb' with h1 | h1
    · exact mine b h1
    · refine ⟨?_, .inl (Nat.le_trans h.size h1)⟩
      cases e : φ b with
      | none => rfl
      | some o => have := lt_of_some (h.fro b o e); omega
  refine ⟨K.os.trans h.os, K.tape.trans h.tape, K.output.trans h.output, Nat.le_trans h.size K.size, ?_, ?_, h.le, h.src, ?_, ?_, ?_⟩
  · intro b hb hm
    exact (K.block b (Nat.lt_of_lt_of_le hb h.size) fun hrb => hm (mine b hrb).2).trans (h.old b hb hm)
  · intro b o hb
    exact (K.block b (lt_of_some (h.fro b o hb)) fun hrb => by have := (mine b hrb).1; rw [hb] at this; cases this).trans (h.fro b o hb)
  · intro s hs
    obtain ⟨i, hi⟩ := List.getElem?_of_mem hs
    rcases get i s hi with ⟨_, rfl⟩ | ⟨hne, hi⟩
    · exact hr
    · exact (h.at_ s (List.mem_of_getElem? hi)).keep K fun b hs => oth i s b hne hi hs
  · intro s hs b hb'
    obtain ⟨i, hi⟩ := List.getElem?_of_mem hs
    rcases get i s hi with ⟨_, rfl⟩ | ⟨hne, hi⟩
    · exact hw b hb'
    · exact h.own s (List.mem_of_getElem? hi) b hb'
  · intro i j s t b hi hj hs ht
    have ltn : ∀ (i : Nat) (s : Res), L[i]? = some s → s.blk? = some b → b < w.heap.size := fun i s hi hs => (h.at_ s (List.mem_of_getElem? hi)).lt hs
    rcases get i s hi with ⟨e1, e2⟩ | ⟨hne, hi'⟩
    · subst e1 e2
      rcases get j t hj with ⟨e1, e2⟩ | ⟨hne, hj'⟩
      · exact e1.symm
      · rcases hb b hs with h1 | h1
        · exact absurd h1 (oth j t b hne hj' ht)
        · have := ltn j t hj' ht; omega
    · rcases get j t hj with ⟨e1, e2⟩ | ⟨hne', hj'⟩
      · subst e1 e2
        rcases hb b ht with h1 | h1
        · exact absurd h1 (oth i s b hne hi' hs)
        · have := ltn i s hi' hs; omega
      · exact h.dj i j s t b hi' hj' hs ht
theorem erase_get {α : Type} {L : List α} {k i : Nat} {s : α} (hi : (L.eraseIdx k)[i]? = some s) : L[if i < k then i else i + 1]? = some s := by
  rw [List.getElem?_eraseIdx] at hi
  split
  · rename_i h; rw [if_pos h] at hi; exact hi
  · rename_i h; rw [if_neg h] at hi; exact hi
theorem St.drop (h : St B φ L w) (k : Nat) : St B φ (L.eraseIdx k) w := by
  refine ⟨h.os, h.tape, h.output, h.size, h.old, h.fro, h.le, h.src, fun r hr => h.at_ r (List.mem_of_mem_eraseIdx hr), fun r hr => h.own r (List.mem_of_mem_eraseIdx hr), ?_⟩
  intro i j r s b hi hj hr hs
  have := h.dj _ _ r s b (erase_get hi) (erase_get hj) hr hs
  split at this <;> split at this <;> omega
/-- One resource goes ahead of the others. -/
theorem St.front (h : St B φ L w) {k : Nat} {r : Res} (hk : L[k]? = some r) : St B φ (r :: L.eraseIdx k) w := by
  refine ⟨h.os, h.tape, h.output, h.size, h.old, h.fro, h.le, h.src, fun s hs => ?_, fun s hs => ?_, ?_⟩
  · rcases List.mem_cons.1 hs with rfl | hs
    · exact h.at_ s (List.mem_of_getElem? hk)
    · exact h.at_ s (List.mem_of_mem_eraseIdx hs)
  · rcases List.mem_cons.1 hs with rfl | hs
    · exact h.own s (List.mem_of_getElem? hk)
    · exact h.own s (List.mem_of_mem_eraseIdx hs)
  intro i j s t b hi hj hs ht
  have get : ∀ (i : Nat) (s : Res), (r :: L.eraseIdx k)[i]? = some s → L[if i = 0 then k else if i - 1 < k then i - 1 else i]? = some s := by
    intro i s hi
    cases i with
    | zero => simpa using hk.trans (by simpa using hi)
    | succ i =>
      have := erase_get (L := L) (k := k) (i := i) (s := s) (by simpa using hi)
      rw [if_neg (by omega)]
      simpa using this
  have := h.dj _ _ s t b (get i s hi) (get j t hj) hs ht
  split at this <;> split at this <;> (try split at this) <;> (try split at this) <;> omega

/-! Slices that nobody writes any more. -/
structure Sl (φ : PHeap) (sz : Nat) (A : Option Addr) (c n : Nat) (cs : List Value) : Prop where
  len : cs.length = n * sz
  cap : n ≤ c
  mem : n = 0 ∨ ∃ b off arr T fr, A = some ⟨b, off, none⟩ ∧ φ b = some (.cells arr T fr) ∧ (arr.toList.drop off).take (n * sz) = cs
def PHeap.Le (φ φ' : PHeap) : Prop := ∀ b o, φ b = some o → φ' b = some o
theorem Sl.le {sz c n : Nat} {A : Option Addr} {cs : List Value} (h : Sl φ sz A c n cs) (hl : PHeap.Le φ φ') : Sl φ' sz A c n cs :=
  ⟨h.len, h.cap, h.mem.imp id fun ⟨b, off, arr, T, fr, h1, h2, h3⟩ => ⟨b, off, arr, T, fr, h1, hl _ _ h2, h3⟩⟩
theorem PHeap.Le.refl (φ : PHeap) : PHeap.Le φ φ := fun _ _ h => h
theorem PHeap.Le.trans {φ1 φ2 φ3 : PHeap} (h : PHeap.Le φ1 φ2) (h' : PHeap.Le φ2 φ3) : PHeap.Le φ1 φ3 := fun b o hb => h' b o (h b o hb)
theorem Sl.nil (φ : PHeap) (sz : Nat) (A : Option Addr) (c : Nat) : Sl φ sz A c 0 [] := ⟨by simp, Nat.zero_le _, .inl rfl⟩
theorem St.freezeB (h : St B φ L w) {k b : Nat} (hk : ∃ r, L[k]? = some r ∧ r.blk? = some b) : ∃ φ', PHeap.Le φ φ' ∧ φ' b = w.heap[b]? ∧ St B φ' (L.eraseIdx k) w := by
  obtain ⟨r, hk, hb⟩ := hk
  have hr := List.mem_of_getElem? hk
  have hn := h.own r hr b hb
  refine ⟨fun x => if x = b then w.heap[b]? else φ x, fun x o hx => ?_, by simp, ?_⟩
  · by_cases e : x = b
    · subst e; rw [hn.1] at hx; cases hx
    · simp [e, hx]
  · have hd := h.drop k
    refine ⟨h.os, h.tape, h.output, h.size, h.old, ?_, ?_, ?_, hd.at_, ?_, hd.dj⟩
    · intro x o hx
      split at hx
      · rename_i e; subst e; exact hx
      · exact h.fro x o hx
    · intro x o hx
      have := h.le x o hx
      by_cases e : x = b
      · subst e; rw [hn.1] at this; cases this
      · simp [e, this]
    · intro x o hx
      split at hx
      · rename_i e; subst e; exact .inr hn.2
      · exact h.src x o hx
    · intro s hs c hc
      have hs' := hd.own s hs c hc
      refine ⟨?_, hs'.2⟩
      obtain ⟨i, hi⟩ := List.getElem?_of_mem hs
      have hne : c ≠ b := by
        rintro rfl
        have := h.dj _ _ s r c (erase_get hi) hk hc hb
        split at this <;> omega
      simp [hne, hs'.1]
theorem St.freeze (h : St B φ L w) {k b : Nat} {T : TypeId} {cs : List Value} (hk : L[k]? = some (.blk b T cs)) :
    ∃ φ', PHeap.Le φ φ' ∧ φ' b = some (.cells cs.toArray T (0, 0)) ∧ St B φ' (L.eraseIdx k) w := by
  obtain ⟨φ', h1, h2, h3⟩ := h.freezeB ⟨_, hk, rfl⟩
  have := h.at_ _ (List.mem_of_getElem? hk)
  exact ⟨φ', h1, h2.trans this, h3⟩
theorem St.freezeO (h : St B φ L w) {k b : Nat} {o : Obj} (hk : L[k]? = some (.obj b o)) :
    ∃ φ', PHeap.Le φ φ' ∧ φ' b = some o ∧ St B φ' (L.eraseIdx k) w := by
  obtain ⟨φ', h1, h2, h3⟩ := h.freezeB ⟨_, hk, rfl⟩
  have := h.at_ _ (List.mem_of_getElem? hk)
  exact ⟨φ', h1, h2.trans this, h3⟩
theorem St.freezeR (h : St B φ L w) {k c n T sz : Nat} {A : Option Addr} {cs : List Value} (hk : L[k]? = some (.row A c T sz cs)) (hn : cs.length = n * sz) (hz : 0 < sz) :
    ∃ φ', PHeap.Le φ φ' ∧ Sl φ' sz A c n cs ∧ St B φ' (L.eraseIdx k) w := by
  have hr := h.at_ _ (List.mem_of_getElem? hk)
  rcases hr with ⟨rfl, rfl, rfl⟩ | ⟨b, cur, rfl, h1, h2, h3, h4, h5⟩
  · have : n = 0 := by
      simp only [List.length_nil] at hn
      rcases Nat.eq_zero_or_pos n with e | e
      · exact e
      · have := Nat.mul_pos e hz; omega
    subst this
    exact ⟨φ, PHeap.Le.refl φ, Sl.nil _ _ _ _, h.drop k⟩
  · obtain ⟨φ', g1, g2, g3⟩ := h.freezeB ⟨_, hk, rfl⟩
    refine ⟨φ', g1, ⟨hn, ?_, .inr ⟨b, 0, cur, T, (0, 0), rfl, g2.trans h1, ?_⟩⟩, g3⟩
    · rw [hn] at h2; exact Nat.le_of_mul_le_mul_right h2 hz
    · rw [← hn]; simpa using h5
/-- Reading. -/
theorem St.blkAt (h : St B φ L w) {k b : Nat} {T : TypeId} {cs : List Value} (hk : L[k]? = some (.blk b T cs)) : Blk w b T cs := h.at_ _ (List.mem_of_getElem? hk)
theorem Sl.cells {sz c n : Nat} {A : Option Addr} {cs : List Value} (h : Sl φ sz A c n cs) (hf : ∀ b o, φ b = some o → w.heap[b]? = some o) {i : Nat} (hi : i < n) :
    ∃ b off, A = some ⟨b, off, none⟩ ∧ ∀ j v, j < sz → cs[i * sz + j]? = some v → w.cell? ⟨b, off + i * sz + j, none⟩ = some v := by
  rcases h.mem with h0 | ⟨b, off, arr, T, fr, rfl, h2, h3⟩
  · omega
  · refine ⟨b, off, rfl, fun j v hj hv => ?_⟩
    have hb := hf _ _ h2
    rw [← h3, List.getElem?_take] at hv
    split at hv
    · rw [List.getElem?_drop] at hv
      simp only [World.cell?, hb]
      rw [show off + i * sz + j = off + (i * sz + j) from by omega]
      simpa using hv
    · cases hv

/-! Calls. -/
theorem St.enter (h : St B φ L w) (own : List Res) (hs : ∃ f : Nat → Nat, (∀ i r, own[i]? = some r → L[f i]? = some r) ∧ ∀ i j, i < own.length → j < own.length → f i = f j → i = j) : St ⟨w, own, φ⟩ φ own w := by
  obtain ⟨f, hf, hi⟩ := hs
  have mem : ∀ r ∈ own, r ∈ L := fun r hr => by
    obtain ⟨i, hi⟩ := List.getElem?_of_mem hr
    exact List.mem_of_getElem? (hf i r hi)
  refine ⟨rfl, TapeLe.refl w, rfl, Nat.le_refl _, fun _ _ _ => rfl, h.fro, fun _ _ h => h, fun _ _ h => .inl h, fun r hr => h.at_ r (mem r hr), fun r hr b hb => ⟨(h.own r (mem r hr) b hb).1, .inr ⟨r, hr, hb⟩⟩, ?_⟩
  intro i j r s b hi' hj hr hs
  have h1 := (List.getElem?_eq_some_iff.1 hi').1
  have h2 := (List.getElem?_eq_some_iff.1 hj).1
  exact hi i j h1 h2 (h.dj _ _ r s b (hf i r hi') (hf j s hj) hr hs)
theorem St.enterH (h : St B φ L w) (n : Nat) : St ⟨w, L.take n, φ⟩ φ (L.take n) w := by
  refine h.enter _ ⟨id, fun i r hi => ?_, fun _ _ _ _ e => e⟩
  rw [List.getElem?_take] at hi
  split at hi
  · exact hi
  · cases hi
theorem St.enterT (h : St B φ L w) (n : Nat) : St ⟨w, L.drop n, φ⟩ φ (L.drop n) w := by
  refine h.enter _ ⟨fun i => n + i, fun i r hi => ?_, fun _ _ _ _ e => by simpa using e⟩
  rwa [List.getElem?_drop] at hi
theorem St.kp {own : List Res} (h : St ⟨w, own, φ⟩ φ' L w') : Keep w w' fun b => ∃ r ∈ own, r.blk? = some b :=
  ⟨h.os, h.tape, h.output, h.size, fun b hb hx => h.old b hb fun hm => hm.elim (fun h => absurd hb (Nat.not_lt.2 h)) hx⟩
theorem St.kp0 (h : St ⟨w, [], φ⟩ φ' L w') : Keep w w' Non := h.kp.weak fun b _ ⟨r, hr, _⟩ => by cases hr
/-- Back in the caller: the resources X stay, own has become own'. -/
theorem St.back {X own own' : List Res} (h : St B φ L w) (hL : (∀ r ∈ X, r ∈ L) ∧ (∀ r ∈ own, r ∈ L) ∧ (∀ (i j : Nat) (r s : Res) (b : Nat), X[i]? = some r → X[j]? = some s → r.blk? = some b → s.blk? = some b → i = j) ∧ (∀ r ∈ X, ∀ s ∈ own, ∀ b, r.blk? = some b → s.blk? ≠ some b))
    (h' : St ⟨w, own, φ⟩ φ' own' w') : St B φ' (own' ++ X) w' ∧ St B φ' (X ++ own') w' ∧ PHeap.Le φ φ' := by
  obtain ⟨hX, hO, hd, ho⟩ := hL
  have k := h'.kp
  have own_mine : ∀ b, (∃ r ∈ own, r.blk? = some b) → B.mine b ∧ φ b = none := fun b ⟨r, hr, hb⟩ => ⟨(h.own r (hO r hr) b hb).2, (h.own r (hO r hr) b hb).1⟩
  have mine' : ∀ b, Base.mine ⟨w, own, φ⟩ b → B.mine b := fun b hb => by
    rcases hb with hb | hb
    · exact .inl (Nat.le_trans h.size hb)
    · exact (own_mine b hb).1
  have Xlt : ∀ r ∈ X, ∀ b, r.blk? = some b → b < w.heap.size ∧ ¬ Base.mine ⟨w, own, φ⟩ b := fun r hr b hb => by
    have hlt := (h.at_ r (hX r hr)).lt hb
    exact ⟨hlt, fun hm => hm.elim (fun h => absurd hlt (Nat.not_lt.2 h)) fun ⟨s, hs, hsb⟩ => ho r hr s hs b hb hsb⟩
  have base : ∀ Y : List Res, (∀ r ∈ Y, r ∈ own' ∨ r ∈ X) → (∀ (i j : Nat) (r s : Res) (b : Nat), Y[i]? = some r → Y[j]? = some s → r.blk? = some b → s.blk? = some b → i = j) → St B φ' Y w' := by
    intro Y hY hdY
    refine ⟨k.os.trans h.os, k.tape.trans h.tape, k.output.trans h.output, Nat.le_trans h.size k.size, ?_, h'.fro, fun b o hb => h'.le b o (h.le b o hb), ?_, ?_, ?_, hdY⟩
    · intro b hb hm
      exact (k.block b (Nat.lt_of_lt_of_le hb h.size) fun hx => hm (own_mine b hx).1).trans (h.old b hb hm)
    · intro b o hb
      rcases h'.src b o hb with h1 | h1
      · exact h.src b o h1
      · exact .inr (mine' b h1)
    · intro r hr
      rcases hY r hr with hr | hr
      · exact h'.at_ r hr
      · exact (h.at_ r (hX r hr)).keep k fun b hb => fun hx => (Xlt r hr b hb).2 (.inr hx)
    · intro r hr b hb
      rcases hY r hr with hr | hr
      · exact ⟨(h'.own r hr b hb).1, mine' b (h'.own r hr b hb).2⟩
      · refine ⟨?_, (h.own r (hX r hr) b hb).2⟩
        cases e : φ' b with
        | none => rfl
        | some o =>
          rcases h'.src b o e with h1 | h1
          · have h1 : φ b = some o := h1
            have := (h.own r (hX r hr) b hb).1; rw [h1] at this; cases this
          · exact absurd h1 (Xlt r hr b hb).2
  have cross : ∀ r ∈ own', ∀ s ∈ X, ∀ b, r.blk? = some b → s.blk? ≠ some b := fun r hr s hs b hb hsb => (Xlt s hs b hsb).2 (h'.own r hr b hb).2
  have dj2 : ∀ Y Z : List Res, (∀ r ∈ Y, ∀ s ∈ Z, ∀ b, r.blk? = some b → s.blk? ≠ some b) → (∀ (i j : Nat) (r s : Res) (b : Nat), Y[i]? = some r → Y[j]? = some s → r.blk? = some b → s.blk? = some b → i = j) →
      (∀ (i j : Nat) (r s : Res) (b : Nat), Z[i]? = some r → Z[j]? = some s → r.blk? = some b → s.blk? = some b → i = j) → ∀ (i j : Nat) (r s : Res) (b : Nat), (Y ++ Z)[i]? = some r → (Y ++ Z)[j]? = some s → r.blk? = some b → s.blk? = some b → i = j := by
    intro Y Z hc hY hZ i j r s b hi hj hr hs
    rcases Nat.lt_or_ge i Y.length with h1 | h1
    · rw [List.getElem?_append_left h1] at hi
      rcases Nat.lt_or_ge j Y.length with h2 | h2
      · rw [List.getElem?_append_left h2] at hj; exact hY i j r s b hi hj hr hs
      · rw [List.getElem?_append_right h2] at hj
        exact absurd hs (hc r (List.mem_of_getElem? hi) s (List.mem_of_getElem? hj) b hr)
    · rw [List.getElem?_append_right h1] at hi
      rcases Nat.lt_or_ge j Y.length with h2 | h2
      · rw [List.getElem?_append_left h2] at hj
        exact absurd hr (hc s (List.mem_of_getElem? hj) r (List.mem_of_getElem? hi) b hs)
      · rw [List.getElem?_append_right h2] at hj
        have := hZ _ _ r s b hi hj hr hs; omega
  refine ⟨base _ (fun r hr => List.mem_append.1 hr) (dj2 _ _ cross h'.dj hd), base _ (fun r hr => (List.mem_append.1 hr).symm) (dj2 _ _ (fun r hr s hs b hb hsb => cross s hs r hr b hsb hb) hd h'.dj), fun b o hb => h'.le b o hb⟩
theorem St.backH (h : St B φ L w) (n : Nat) {own' : List Res} (h' : St ⟨w, L.take n, φ⟩ φ' own' w') : St B φ' (own' ++ L.drop n) w' ∧ PHeap.Le φ φ' := by
  have := h.back (X := L.drop n) ⟨fun r hr => List.mem_of_mem_drop hr, fun r hr => List.mem_of_mem_take hr, fun i j r s b hi hj hr hs => by
    rw [List.getElem?_drop] at hi hj
    have := h.dj _ _ r s b hi hj hr hs; omega, fun r hr s hs b hb hsb => by
    obtain ⟨i, hi⟩ := List.getElem?_of_mem hr
    obtain ⟨j, hj⟩ := List.getElem?_of_mem hs
    rw [List.getElem?_drop] at hi
    rw [List.getElem?_take] at hj
    split at hj
    · have := h.dj _ _ r s b hi hj hb hsb; omega
    · cases hj⟩ h'
  exact ⟨this.1, this.2.2⟩
theorem St.backT (h : St B φ L w) (n : Nat) {own' : List Res} (h' : St ⟨w, L.drop n, φ⟩ φ' own' w') : St B φ' (L.take n ++ own') w' ∧ PHeap.Le φ φ' := by
  have := h.back (X := L.take n) ⟨fun r hr => List.mem_of_mem_take hr, fun r hr => List.mem_of_mem_drop hr, fun i j r s b hi hj hr hs => by
    rw [List.getElem?_take] at hi hj
    (split at hi <;> split at hj <;> first | exact h.dj _ _ r s b hi hj hr hs | (cases hi; done) | (cases hj; done)), fun r hr s hs b hb hsb => by
    obtain ⟨i, hi⟩ := List.getElem?_of_mem hr
    obtain ⟨j, hj⟩ := List.getElem?_of_mem hs
    rw [List.getElem?_drop] at hj
    rw [List.getElem?_take] at hi
    split at hi
    · have := h.dj _ _ r s b hi hj hb hsb; omega
    · cases hi⟩ h'
  exact ⟨this.2.1, this.2.2⟩
end
end Go.KL
