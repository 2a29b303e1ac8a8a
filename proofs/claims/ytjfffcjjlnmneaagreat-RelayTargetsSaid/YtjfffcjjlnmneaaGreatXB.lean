/- What the machine of XXA has to do with the model: values, memory. -/
import Derived.Test.YtjfffcjjlnmneaaGreatXR
namespace Go.KX
open Go.RowKit Go.KL

/-- What a range over a function was entered with. -/
structure Gh where
  N : Nat
  σ : Env
  t : List Nat
  ac : Code
  bc : Code
  rb : Nat
  fn : FuncId
def g0 : Gh := ⟨0, fun _ => undef, [], .skip, .skip, 0, 0⟩
/-- Where a block of the machine lies: the block; the capacity of a row; a range's record. -/
structure Cl where
  b : Nat
  c : Nat
  g : Gh
abbrev Mu := Pos → Option Cl
mutual
def Rv (μ : Mu) : AV → Value → Prop
  | .int k n, v => v = .int k n
  | .bool b, v => v = .bool b
  | .ptr b off, v => ∃ c, μ b = some c ∧ v = .pointer (some ⟨c.1, off, none⟩)
  | .pnil, v => v = .pointer none
  | .sl b off n c, v => ∃ d, μ b = some d ∧ n ≤ c ∧ v = .slice (some ⟨d.1, off, none⟩) n c
  | .rw b eo co n, v => ∃ d, μ b = some d ∧ eo + n ≤ d.2 ∧ v = .slice (some ⟨d.1, co, none⟩) n (d.2 - eo)
  | .rz b eo, v => ∃ d, μ b = some d ∧ ∃ o, v = .slice (some ⟨d.1, o, none⟩) 0 (d.2 - eo)
  | .snil, v => v = .slice none 0 0
  | .map b, v => ∃ c, μ b = some c ∧ v = .map (some c.1)
  | .mnil, v => v = .map none
  | .fn f fi ca, v => ∃ fv cv, RvL μ fi fv ∧ RvL μ ca cv ∧ v = .func (.func (f.nat - 1)) fv.toArray cv.toArray
  | .yld b, v => ∃ c, μ b = some c ∧ v = .func (.yield c.1) #[] #[]
  | .fnil, v => v = .nilFunc
  | .agg l, v => ∃ vs, RvL μ l vs ∧ v = .agg vs.toArray
  | .tup l, v => ∃ vs, RvL μ l vs ∧ v = .tuple vs.toArray
def RvL (μ : Mu) : List AV → List Value → Prop
  | [], vs => vs = []
  | a :: l, vs => ∃ v ws, Rv μ a v ∧ RvL μ l ws ∧ vs = v :: ws
end
def Mu.Le (μ μ' : Mu) : Prop := ∀ p c, μ p = some c → μ' p = some c
theorem Mu.Le.refl (μ : Mu) : μ.Le μ := fun _ _ h => h
theorem Mu.Le.trans {a b c : Mu} (h : a.Le b) (k : b.Le c) : a.Le c := fun p x hx => k p x (h p x hx)
mutual
theorem Rv.mono {μ μ' : Mu} (hm : μ.Le μ') : ∀ {a : AV} {v : Value}, Rv μ a v → Rv μ' a v
  | .int _ _, _, h => h
  | .bool _, _, h => h
  | .ptr _ _, _, ⟨c, h1, h2⟩ => ⟨c, hm _ _ h1, h2⟩
  | .pnil, _, h => h
  | .sl _ _ _ _, _, ⟨c, h1, h2⟩ => ⟨c, hm _ _ h1, h2⟩
  | .rw _ _ _ _, _, ⟨c, h1, h2⟩ => ⟨c, hm _ _ h1, h2⟩
  | .rz _ _, _, ⟨c, h1, h2⟩ => ⟨c, hm _ _ h1, h2⟩
  | .snil, _, h => h
  | .map _, _, ⟨c, h1, h2⟩ => ⟨c, hm _ _ h1, h2⟩
  | .mnil, _, h => h
  | .fn _ _ _, _, ⟨fv, cv, h1, h2, h3⟩ => ⟨fv, cv, RvL.mono hm h1, RvL.mono hm h2, h3⟩
  | .yld _, _, ⟨c, h1, h2⟩ => ⟨c, hm _ _ h1, h2⟩
  | .fnil, _, h => h
  | .agg _, _, ⟨vs, h1, h2⟩ => ⟨vs, RvL.mono hm h1, h2⟩
  | .tup _, _, ⟨vs, h1, h2⟩ => ⟨vs, RvL.mono hm h1, h2⟩
theorem RvL.mono {μ μ' : Mu} (hm : μ.Le μ') : ∀ {l : List AV} {vs : List Value}, RvL μ l vs → RvL μ' l vs
  | [], _, h => h
  | _ :: _, _, ⟨v, ws, h1, h2, h3⟩ => ⟨v, ws, Rv.mono hm h1, RvL.mono hm h2, h3⟩
end
/-- A value of the machine that stands for one value only (all but rz). -/
theorem rvL_nil {μ : Mu} : RvL μ [] [] := rfl
theorem rvL_cons {μ : Mu} {a : AV} {l : List AV} {v : Value} {vs : List Value} (h : Rv μ a v) (h' : RvL μ l vs) : RvL μ (a :: l) (v :: vs) := ⟨v, vs, h, h', rfl⟩
theorem rvL_len {μ : Mu} : ∀ {l : List AV} {vs : List Value}, RvL μ l vs → vs.length = l.length
  | [], _, h => by cases h; rfl
  | _ :: _, _, ⟨_, _, _, h2, h3⟩ => by subst h3; simp [rvL_len h2]
theorem rvL_app {μ : Mu} : ∀ {l k : List AV} {vs ws : List Value}, RvL μ l vs → RvL μ k ws → RvL μ (l ++ k) (vs ++ ws)
  | [], _, _, _, h, h' => by cases h; exact h'
  | _ :: _, _, _, _, ⟨v, ws, h1, h2, h3⟩, h' => by subst h3; exact rvL_cons h1 (rvL_app h2 h')
theorem rvL_get {μ : Mu} : ∀ {l : List AV} {vs : List Value}, RvL μ l vs → ∀ {i : Nat} {a : AV}, l[i]? = some a → ∃ v, vs[i]? = some v ∧ Rv μ a v
  | [], _, _, i, a, hi => by simp at hi
  | b :: l, _, ⟨v, ws, h1, h2, h3⟩, i, a, hi => by
    subst h3
    cases i with
    | zero => simp at hi; subst hi; exact ⟨v, rfl, h1⟩
    | succ i => simpa using rvL_get h2 (i := i) (by simpa using hi)
theorem rvL_drop {μ : Mu} : ∀ {l : List AV} {vs : List Value} (n : Nat), RvL μ l vs → RvL μ (l.drop n) (vs.drop n)
  | _, _, 0, h => h
  | [], _, n + 1, h => by cases h; exact rfl
  | _ :: _, _, n + 1, ⟨_, _, _, h2, h3⟩ => by subst h3; exact rvL_drop n h2
theorem rvL_take {μ : Mu} : ∀ {l : List AV} {vs : List Value} (n : Nat), RvL μ l vs → RvL μ (l.take n) (vs.take n)
  | _, _, 0, _ => rfl
  | [], _, n + 1, h => by cases h; exact rfl
  | _ :: _, _, n + 1, ⟨_, _, h1, h2, h3⟩ => by subst h3; exact rvL_cons h1 (rvL_take n h2)
theorem rvL_rep {μ : Mu} {l : List AV} {vs : List Value} (h : RvL μ l vs) : ∀ n, RvL μ (rep n l) (List.replicate n vs).flatten
  | 0 => rfl
  | n + 1 => by rw [List.replicate_succ, List.flatten_cons]; exact rvL_app h (rvL_rep h n)

/-! ### Lists of the machine -/
section
variable {α : Type}
theorem nth_eq : ∀ (l : List α) (n : Nat), nth l n = l[n]?
  | [], _ => rfl
  | _ :: _, 0 => rfl
  | _ :: l, n + 1 => by show nth l n = _; rw [nth_eq l n]; simp
theorem len_eq : ∀ (l : List α), len l = l.length
  | [] => rfl
  | _ :: l => by show Nat.succ (len l) = _; rw [len_eq l]; rfl
theorem consO_some {a : α} {o : Option (List α)} {r : List α} (h : consO a o = some r) : ∃ r', o = some r' ∧ r = a :: r' := by
  cases o with
  | none => cases h
  | some r' => cases h; exact ⟨r', rfl, rfl⟩
theorem tk_some : ∀ {l : List α} {n : Nat} {r : List α}, tk l n = some r → r = l.take n ∧ n ≤ l.length
  | [], 0, r, h => by cases h; simp
  | [], n + 1, r, h => by cases h
  | a :: l, 0, r, h => by cases h; simp
  | a :: l, n + 1, r, h => by
    obtain ⟨r', h1, rfl⟩ := consO_some (show consO a (tk l n) = some r from h)
    obtain ⟨h2, h3⟩ := tk_some h1
    simp [h2, h3]
theorem sub_some : ∀ {l : List α} {off n : Nat} {r : List α}, sub l off n = some r → r = (l.drop off).take n ∧ off + n ≤ l.length
  | [], 0, n, r, h => by have := tk_some (l := []) (n := n) h; simpa using this
  | [], off + 1, n, r, h => by cases h
  | a :: l, 0, n, r, h => by have := tk_some (l := a :: l) (n := n) h; simpa using this
  | a :: l, off + 1, n, r, h => by
    obtain ⟨h1, h2⟩ := sub_some (show sub l off n = some r from h)
    exact ⟨by simpa using h1, by simp; omega⟩
theorem ov_some : ∀ {l vs r : List α}, ov l vs = some r → vs.length ≤ l.length ∧ r = vs ++ l.drop vs.length
  | [], [], r, h => by cases h; simp
  | [], v :: vs, r, h => by cases h
  | a :: l, [], r, h => by cases h; simp
  | a :: l, v :: vs, r, h => by
    obtain ⟨r', h1, rfl⟩ := consO_some (show consO v (ov l vs) = some r from h)
    obtain ⟨h2, h3⟩ := ov_some h1
    subst h3
    exact ⟨by simpa using h2, by simp⟩
theorem over_some : ∀ {l : List α} {off : Nat} {vs r : List α}, over l off vs = some r → off + vs.length ≤ l.length ∧ r = l.take off ++ vs ++ l.drop (off + vs.length)
  | [], 0, vs, r, h => by have := ov_some (l := []) h; simp at this; simp [this]
  | [], off + 1, vs, r, h => by cases h
  | a :: l, 0, vs, r, h => by have := ov_some (l := a :: l) h; simp at this; simp [this]
  | a :: l, off + 1, vs, r, h => by
    obtain ⟨r', h1, rfl⟩ := consO_some (show consO a (over l off vs) = some r from h)
    obtain ⟨h2, h3⟩ := over_some h1
    subst h3
    refine ⟨by simp; omega, ?_⟩
    rw [show off + 1 + vs.length = (off + vs.length) + 1 from by omega]
    simp
end
theorem setN_eq : ∀ (vs l : List Value) (off : Nat), off + vs.length ≤ l.length → setN l off vs = l.take off ++ vs ++ l.drop (off + vs.length)
  | [], l, off, _ => by simp [setN]
  | v :: vs, l, off, h => by
    simp only [List.length_cons] at h
    have hlt : off < l.length := by omega
    rw [setN, setN_eq vs (l.set off v) (off + 1) (by simp; omega)]
    have h1 : (l.set off v).take (off + 1) = l.take off ++ [v] := by
      rw [List.take_set, List.take_add_one, List.getElem?_eq_getElem hlt]
      rw [List.set_append_right _ _ (by simp; omega)]
      simp [Nat.min_eq_left (Nat.le_of_lt hlt)]
    rw [h1, List.drop_set_of_lt (by omega)]
    rw [show off + 1 + vs.length = off + (v :: vs).length from by simp; omega]
    simp
theorem rvL_over {μ : Mu} {l vs r : List AV} {L V : List Value} {off : Nat} (h : over l off vs = some r) (hl : RvL μ l L) (hv : RvL μ vs V) : off + V.length ≤ L.length ∧ RvL μ r (setN L off V) := by
  obtain ⟨h1, rfl⟩ := over_some h
  have e1 := rvL_len hl
  have e2 := rvL_len hv
  have h2 : off + V.length ≤ L.length := by omega
  refine ⟨h2, ?_⟩
  rw [setN_eq V L off h2, e2]
  exact rvL_app (rvL_app (rvL_take off hl) hv) (rvL_drop _ hl)
theorem rvL_sub {μ : Mu} {l r : List AV} {L : List Value} {off n : Nat} (h : sub l off n = some r) (hl : RvL μ l L) : RvL μ r ((L.drop off).take n) ∧ off + n ≤ L.length := by
  obtain ⟨rfl, h1⟩ := sub_some h
  have e1 := rvL_len hl
  exact ⟨rvL_take n (rvL_drop off hl), by omega⟩
theorem rv_one {μ : Mu} {a : AV} {v : Value} (h : Rv μ a v) (h1 : a.one = true) : one v = true := by
  cases a <;> simp only [Rv] at h <;> first | (cases h1; done) | (subst h; rfl) | (obtain ⟨_, _, _, _, _, rfl⟩ := h; rfl) | (obtain ⟨_, _, _, _, rfl⟩ := h; rfl) | (obtain ⟨_, _, _, rfl⟩ := h; rfl) | (obtain ⟨_, _, rfl⟩ := h; rfl)
theorem rvL_ones {μ : Mu} : ∀ {l : List AV} {vs : List Value}, RvL μ l vs → ones l = true → ∀ v ∈ vs, one v = true
  | [], _, h, _ => by cases h; simp
  | a :: l, _, ⟨v, ws, h1, h2, h3⟩, ho => by
    subst h3
    have ho : (a.one && ones l) = true := ho
    rw [Bool.and_eq_true] at ho
    intro u hu
    rcases List.mem_cons.1 hu with rfl | hu
    · exact rv_one h1 ho.1
    · exact rvL_ones h2 ho.2 u hu
theorem rv_cells {μ : Mu} {a : AV} {v : Value} (h : Rv μ a v) : ∃ vs, RvL μ a.cells vs ∧ v.cells = vs.toArray := by
  cases a with
  | agg l => obtain ⟨vs, h1, rfl⟩ := h; exact ⟨vs, h1, rfl⟩
  | tup l => obtain ⟨vs, h1, rfl⟩ := h; exact ⟨[_], rvL_cons ⟨vs, h1, rfl⟩ rvL_nil, rfl⟩
  | _ =>
    refine ⟨[v], rvL_cons h rvL_nil, ?_⟩
    simp only [Rv] at h
    first | (subst h; rfl) | (obtain ⟨_, _, _, _, _, rfl⟩ := h; rfl) | (obtain ⟨_, _, _, _, rfl⟩ := h; rfl) | (obtain ⟨_, _, _, rfl⟩ := h; rfl) | (obtain ⟨_, _, rfl⟩ := h; rfl)
end Go.KX
