/- What models are made of: functions that may fail, loops, numbers that wrap. No program in sight. -/
namespace Go.KL

def w64 (x : Int) : Int := (x + 9223372036854775808) % 18446744073709551616 - 9223372036854775808
def wu64 (n : Int) : Int := n % 18446744073709551616
def wu32 (x : Int) : Int := x % 4294967296
def wu8 (x : Int) : Int := x % 256
theorem w64_in {x : Int} (h1 : -9223372036854775808 ≤ x) (h2 : x ≤ 9223372036854775807) : w64 x = x := by unfold w64; omega
theorem w64_lo (x : Int) : -9223372036854775808 ≤ w64 x := by unfold w64; omega
theorem w64_hi (x : Int) : w64 x ≤ 9223372036854775807 := by unfold w64; omega

def chk (i : Int) (n : Nat) : Option Unit := if 0 ≤ i ∧ i < n then some () else none
def idx {α : Type} (l : List α) (i : Int) : Option α := if 0 ≤ i then l[i.toNat]? else none
def quo (a b : Int) : Option Int := if b = 0 then none else some (w64 (a.tdiv b))
def quou (a b : Int) : Option Int := if b = 0 then none else some (wu32 (a.tdiv b))
def rem (a b : Int) : Option Int := if b = 0 then none else some (a.tmod b)
/-- An append: it needs room. -/
def app {α : Type} (bytes : Nat) (l m : List α) : Option (List α) := if (l.length + m.length) * bytes ≤ 140737488355328 then some (l ++ m) else none
def nn {α : Type} (o : Option α) : Option α := o

/-- An array. -/
structure Arr (α : Type) (n : Nat) where
  l : List α
  h : l.length = n
deriving DecidableEq
namespace Arr
variable {α : Type} {n : Nat}
def fill (n : Nat) (x : α) : Arr α n := ⟨List.replicate n x, by simp⟩
def set (a : Arr α n) (i : Nat) (x : α) : Arr α n := ⟨a.l.set i x, by simp [a.h]⟩
def get [Inhabited α] (a : Arr α n) (i : Nat) : α := a.l.getD i default
end Arr

/-- The rounds from k on, m of them. -/
def forN {S B : Type} (body : Nat → S → Option (S ⊕ B)) : Nat → Nat → S → Option (S ⊕ B)
  | 0, _, s => some (.inl s)
  | m + 1, k, s => match body k s with
    | none => none
    | some (.inl s') => forN body m (k + 1) s'
    | some (.inr b) => some (.inr b)
def forR {S B : Type} (lo hi : Int) (body : Nat → S → Option (S ⊕ B)) (s : S) : Option (S ⊕ B) := if hi ≤ 9223372036854775807 then forN body (hi - lo).toNat 0 s else none
/-- The same, of a loop that nothing leaves early. -/
def forN' {S : Type} (body : Nat → S → Option S) : Nat → Nat → S → Option S
  | 0, _, s => some s
  | m + 1, k, s => match body k s with
    | none => none
    | some s' => forN' body m (k + 1) s'
def forR' {S : Type} (lo hi : Int) (body : Nat → S → Option S) (s : S) : Option S := if hi ≤ 9223372036854775807 then forN' body (hi - lo).toNat 0 s else none
def big : Nat := 18446744073709551616
def iter {S B : Type} (body : S → Option (S ⊕ B)) : Nat → S → Option B
  | 0, _ => none
  | m + 1, s => match body s with
    | none => none
    | some (.inl s') => iter body m s'
    | some (.inr b) => some b
theorem bnd {α β : Type} {x : Option α} {f : α → Option β} {b : β} (h : x.bind f = some b) : ∃ a, x = some a ∧ f a = some b := by
  cases x with
  | none => cases h
  | some a => exact ⟨a, rfl, h⟩
theorem chk_lo {i : Int} {n : Nat} {u : Unit} (h : chk i n = some u) : 0 ≤ i := by unfold chk at h; split at h <;> simp_all
theorem chk_hi {i : Int} {n : Nat} {u : Unit} (h : chk i n = some u) : i < n := by unfold chk at h; split at h <;> simp_all
theorem chk_lt {i : Int} {n : Nat} {u : Unit} (h : chk i n = some u) : i.toNat < n := by have := chk_lo h; have := chk_hi h; omega
theorem chk_ok {i : Int} {n : Nat} (h0 : 0 ≤ i) (h1 : i < n) : chk i n = some () := if_pos ⟨h0, h1⟩
theorem idx_lo {α : Type} {l : List α} {i : Int} {x : α} (h : idx l i = some x) : 0 ≤ i := by unfold idx at h; split at h <;> simp_all
theorem idx_get {α : Type} {l : List α} {i : Int} {x : α} (h : idx l i = some x) : l[i.toNat]? = some x := by unfold idx at h; split at h <;> simp_all
theorem idx_lt {α : Type} {l : List α} {i : Int} {x : α} (h : idx l i = some x) : i.toNat < l.length := (List.getElem?_eq_some_iff.1 (idx_get h)).1
theorem idx_hi {α : Type} {l : List α} {i : Int} {x : α} (h : idx l i = some x) : i < l.length := by have := idx_lt h; have := idx_lo h; omega
theorem idx_nat {α : Type} {l : List α} {k : Nat} : idx l (k : Int) = l[k]? := by simp [idx]
theorem app_eq {α : Type} {bytes : Nat} {l m r : List α} (h : app bytes l m = some r) : r = l ++ m ∧ (l.length + m.length) * bytes ≤ 140737488355328 := by
  unfold app at h; split at h
  · rename_i h'; injection h with h; exact ⟨h.symm, h'⟩
  · cases h
theorem rem_ne {a b r : Int} (h : rem a b = some r) : b ≠ 0 ∧ a.tmod b = r := by unfold rem at h; split at h <;> simp_all
theorem quo_ne {a b r : Int} (h : quo a b = some r) : b ≠ 0 ∧ w64 (a.tdiv b) = r := by unfold quo at h; split at h <;> simp_all
theorem quou_ne {a b r : Int} (h : quou a b = some r) : b ≠ 0 ∧ wu32 (a.tdiv b) = r := by unfold quou at h; split at h <;> simp_all
theorem forR_le {S B : Type} {lo hi : Int} {body : Nat → S → Option (S ⊕ B)} {s : S} {b : S ⊕ B} (h : forR lo hi body s = some b) : hi ≤ 9223372036854775807 ∧ forN body (hi - lo).toNat 0 s = some b := by
  unfold forR at h; split at h
  · rename_i h'; exact ⟨h', h⟩
  · cases h
theorem forR'_le {S : Type} {lo hi : Int} {body : Nat → S → Option S} {s : S} {b : S} (h : forR' lo hi body s = some b) : hi ≤ 9223372036854775807 ∧ forN' body (hi - lo).toNat 0 s = some b := by
  unfold forR' at h; split at h
  · rename_i h'; exact ⟨h', h⟩
  · cases h
/-- The way out of a part: what the whole gives. -/
def esc {S R : Type} (x : Option R) : Option (S ⊕ R) := match x with
  | none => none
  | some v => some (.inr v)
theorem esc_spec {S R : Type} {x : Option R} {y : S ⊕ R} (h : esc x = some y) : ∃ v, x = some v ∧ y = .inr v := by
  cases x with
  | none => cases h
  | some v => exact ⟨v, rfl, (Option.some.inj h).symm⟩
/-- A part, and what follows where nothing has left it. -/
def jn {S R : Type} (x : Option (S ⊕ R)) (k : S → Option R) : Option R := match x with
  | none => none
  | some (.inl s) => k s
  | some (.inr v) => some v
theorem jn_some {S R : Type} {x : Option (S ⊕ R)} {k : S → Option R} {v : R} (h : jn x k = some v) : ∃ r, x = some r := by
  cases x with
  | none => cases h
  | some r => exact ⟨r, rfl⟩
theorem jn_inl {S R : Type} {x : Option (S ⊕ R)} {k : S → Option R} {v : R} {s : S} {r : S ⊕ R} (h : jn x k = some v) (hx : x = some r) (hr : r = .inl s) : k s = some v := by subst hx hr; exact h
theorem jn_inr {S R : Type} {x : Option (S ⊕ R)} {k : S → Option R} {v u : R} {r : S ⊕ R} (h : jn x k = some v) (hx : x = some r) (hr : r = .inr u) : u = v := by subst hx hr; exact Option.some.inj h
@[simp] theorem esc_some {S R : Type} (v : R) : (esc (some v) : Option (S ⊕ R)) = some (.inr v) := rfl
@[simp] theorem esc_none {S R : Type} : (esc (none : Option R) : Option (S ⊕ R)) = none := rfl
@[simp] theorem jn_some_inl {S R : Type} (s : S) (k : S → Option R) : jn (some (.inl s)) k = k s := rfl
@[simp] theorem jn_some_inr {S R : Type} (v : R) (k : S → Option R) : jn (some (.inr v)) k = some v := rfl
@[simp] theorem jn_none {S R : Type} (k : S → Option R) : jn none k = none := rfl
theorem Arr.at_ {α : Type} [Inhabited α] {n : Nat} (a : Arr α n) {k : Nat} (h : k < n) : a.l[k]? = some (a.get k) := by
  unfold Arr.get
  rw [List.getD_eq_getElem?_getD, List.getElem?_eq_getElem (by rw [a.h]; exact h)]
  rfl
instance {α : Type} {n : Nat} [Inhabited α] : Inhabited (Arr α n) := ⟨.fill n default⟩
/-- An element that is there. -/
def gd {α : Type} [Inhabited α] (l : List α) (k : Nat) : α := l.getD k default
theorem gd_at {α : Type} [Inhabited α] {xs : List α} {k : Nat} (h : k < xs.length) : xs[k]? = some (gd xs k) := by
  unfold gd
  rw [List.getD_eq_getElem?_getD, List.getElem?_eq_getElem h]
  rfl
/-- A fact that arithmetic does not look at. -/
structure Hid (p : Prop) : Prop where
  mk :: out : p
theorem lp_lt {lo hi : Int} {k : Nat} (h : k < (hi - lo).toNat) : lo + ↑k < hi := by omega
theorem lp_lt0 {hi : Int} {k : Nat} (h : k < (hi - 0).toNat) : (↑k : Int) < hi := by omega
theorem lp_le {lo hi : Int} {k : Nat} (h : k < (hi + 1 - lo).toNat) : lo + ↑k ≤ hi := by omega
theorem lp_le0 {hi : Int} {k : Nat} (h : k < (hi + 1 - 0).toNat) : (↑k : Int) ≤ hi := by omega
theorem lp_end {lo hi : Int} : ¬ (lo + ↑(hi - lo).toNat < hi) := by omega
theorem lp_end0 {hi : Int} : ¬ ((↑(hi - 0).toNat : Int) < hi) := by omega
theorem lp_end_le {lo hi : Int} : ¬ (lo + ↑(hi + 1 - lo).toNat ≤ hi) := by omega
theorem lp_end_le0 {hi : Int} : ¬ ((↑(hi + 1 - 0).toNat : Int) ≤ hi) := by omega
/-! Maps, by their entries. -/
section
variable {K V : Type} [DecidableEq K]
def mget : List (K × V) → K → Option V
  | [], _ => none
  | (a, v) :: l, x => if x = a then some v else mget l x
def mput : List (K × V) → K → V → List (K × V)
  | [], x, v => [(x, v)]
  | (a, u) :: l, x, v => if x = a then (x, v) :: l else (a, u) :: mput l x v
def mdel : List (K × V) → K → List (K × V)
  | [], _ => []
  | (a, u) :: l, x => if x = a then l else (a, u) :: mdel l x
def mhas (l : List (K × V)) (x : K) : Bool := (mget l x).isSome
def mgetD (l : List (K × V)) (x : K) (z : V) : V := (mget l x).getD z
def locate : List (K × V) → K → Nat → Option (Nat × V)
  | [], _, _ => none
  | (a, v) :: l, x, i => if x = a then some (i, v) else locate l x (i + 1)
theorem locate_mget (l : List (K × V)) (x : K) (i : Nat) : (locate l x i).map (·.2) = mget l x := by
  induction l generalizing i with
  | nil => rfl
  | cons p l ih => obtain ⟨a, v⟩ := p; simp only [locate, mget]; split <;> simp [ih]
theorem locate_none {l : List (K × V)} {x : K} {i : Nat} (h : locate l x i = none) (v : V) : mput l x v = l ++ [(x, v)] ∧ mdel l x = l := by
  induction l generalizing i with
  | nil => exact ⟨rfl, rfl⟩
  | cons p l ih =>
    obtain ⟨a, u⟩ := p
    rw [locate] at h
    split at h
    · cases h
    · rename_i hne
      obtain ⟨h1, h2⟩ := ih h
      simp [mput, mdel, hne, h1, h2]
theorem locate_some {l : List (K × V)} {x : K} {i j : Nat} {u : V} (h : locate l x i = some (j, u)) (v : V) : i ≤ j ∧ l[j - i]? = some (x, u) ∧ mput l x v = l.set (j - i) (x, v) ∧ mdel l x = l.eraseIdx (j - i) := by
  induction l generalizing i with
  | nil => cases h
  | cons p l ih =>
    obtain ⟨a, u'⟩ := p
    rw [locate] at h
    split at h
    · rename_i e; subst e
      simp only [Option.some.injEq, Prod.mk.injEq] at h
      obtain ⟨rfl, rfl⟩ := h
      simp [mput, mdel]
    · rename_i hne
      obtain ⟨h1, h2, h3, h4⟩ := ih h
      have e : j - i = (j - (i + 1)) + 1 := by omega
      refine ⟨by omega, by rw [e]; simpa using h2, ?_, ?_⟩
      · rw [e]; simp [mput, hne, h3]
      · rw [e]; simp [mdel, hne, h4]
end
/-- make([]T, n): zeros. -/
def mkz {α : Type} (by_ : Nat) (n : Int) (z : α) : Option (List α) := if 0 ≤ n ∧ n ≤ 16777216 ∧ (by_ : Int) * n ≤ 281474976710656 then some (List.replicate n.toNat z) else none
/-- x[a:b] within the length. -/
def cut {α : Type} (l : List α) (a b : Int) : Option (List α) := if 0 ≤ a ∧ a ≤ b ∧ b ≤ l.length then some ((l.drop a.toNat).take (b.toNat - a.toNat)) else none
/-- ys is copied into m from a on, as far as m reaches. -/
def cpy {α : Type} (m : List α) (a : Nat) (ys : List α) : List α := m.take a ++ ys.take (m.length - a) ++ m.drop (a + ys.length)
def cpyO {α : Type} (m : List α) (a : Int) (ys : List α) : Option (List α) := if 0 ≤ a ∧ a ≤ m.length then some (cpy m a.toNat ys) else none
end Go.KL
