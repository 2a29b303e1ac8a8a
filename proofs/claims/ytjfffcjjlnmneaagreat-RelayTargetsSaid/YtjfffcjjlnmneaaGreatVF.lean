/- Functions as values; elements that hold addresses. -/
import Derived.Test.YtjfffcjjlnmneaaGreatVS
namespace Go.KL
open Go.RowKit

/-- The value v is a function that, whatever is added to memory, does what the model h says. -/
def FnOK {X Y : Type} (P : Program) (φ : PHeap) (v : Value) (AR : PHeap → X → List Value → Prop) (RR : PHeap → List Res → Value → Y → Prop) (h : X → Option Y) : Prop :=
  ∃ fid fst cap, v = .func (.func fid) (List.toArray fst) (List.toArray cap) ∧ (∀ (args : Array Value) (w : World), (callFunc fid args).run P w = .ok (.enter fid args) w) ∧
    ∀ φ1 w1 x y vs, PHeap.Le φ φ1 → St ⟨w1, [], φ1⟩ φ1 [] w1 → AR φ1 x vs → h x = some y → Gv P fid (fst ++ vs ++ cap) w1 (RetS w1 [] φ1 fun φ_ L_ v => RR φ_ L_ v y)
section
variable {N : Nat} {P : Program} {l : List Oper} {Q : Post} {D : List Deferred} {ks : List Nat} {σ : Env} {w : World} {i d : Nat} {s : Sch} {o : Oper} {B : Base} {φ : PHeap} {L : List Res}
theorem FnOK.le {X Y : Type} {φ φ' : PHeap} {v : Value} {AR : PHeap → X → List Value → Prop} {RR : PHeap → List Res → Value → Y → Prop} {h : X → Option Y} (hF : FnOK P φ v AR RR h) (hl : PHeap.Le φ φ') : FnOK P φ' v AR RR h := by
  obtain ⟨fid, fst, cap, e, hc, hg⟩ := hF
  exact ⟨fid, fst, cap, e, hc, fun φ1 w1 x y vs h1 => hg φ1 w1 x y vs (hl.trans h1)⟩
theorem FnOK.cells {X Y : Type} {v : Value} {AR : PHeap → X → List Value → Prop} {RR : PHeap → List Res → Value → Y → Prop} {h : X → Option Y} (hF : FnOK P φ v AR RR h) : v.cells = [v].toArray := by
  obtain ⟨fid, fst, cap, rfl, _⟩ := hF; rfl
theorem OKS.callV {X Y : Type} {x : Operand} {al : List Operand} {ty : Array TypeId} {v : Value} {vs : List Value} {AR : PHeap → X → List Value → Prop} {RR : PHeap → List Res → Value → Y → Prop} {h : X → Option Y} {a : X} {y : Y}
    (ho : l[i]? = some o) (hd : o.dst = some d) (hN : Nat.blt d N = true) (hw : wanted l σ o = true) (hop : o.op = .call { callee := .value x, args := al.toArray, argTypes := ty }) (hx : ev σ x = v) (hl : List.map (ev σ) al = vs)
    (hS : St B φ L w) (hF : FnOK P φ v AR RR h) (hA : AR φ a vs) (hm : h a = some y)
    (k : ∀ φ' L' v w', PHeap.Le φ φ' → St B φ' (L' ++ L) w' → RR φ' L' v y → OKS N P l Q D ks s (upd σ d v) w') : OKS N P l Q D ks (.fx i s .stop) σ w := by
  obtain ⟨fid, fst, cap, rfl, hc, hg⟩ := hF
  exact OKS.callH 0 ho hd hN hw (Enters.mk hop hx hc hl rfl) hS (fun hs => hg φ w a y vs (PHeap.Le.refl φ) hs hA hm) (.inr rfl) k
theorem Runs.nilv {x : Operand} {X Y : Type} {v : Value} {AR : PHeap → X → List Value → Prop} {RR : PHeap → List Res → Value → Y → Prop} {h : X → Option Y} (ho : o.op = .nilCheck x) (hx : ev σ x = v) (hF : FnOK P φ v AR RR h) : Runs P σ w o v w := by
  obtain ⟨fid, fst, cap, rfl, hc, hg⟩ := hF
  exact Runs.nilf ho hx
theorem Sl.nilA {sz c n : Nat} {cs : List Value} (h : Sl φ sz none c n cs) : n = 0 := by
  rcases h.mem with h | ⟨b, off, arr, T, fr, h, _⟩
  · exact h
  · cases h
theorem nilSl {t : TypeId} {u : TypeDesc} (ht : ∀ w, (underlying t).run P w = .ok u w) {e : TypeId} (hu : u = .slice e) (A : Option Addr) (n c : Nat) (w : World) : (Op.equal t (.slice A n c) (.slice none 0 0)).run P w = .ok A.isNone w := by
  unfold Op.equal Op.maxDepth
  subst hu
  rw [show (10000 : Nat) = 9999 + 1 from rfl, Op.equalIn]
  simp only [Sem.run_bind, ht, Result.andThen_ok]
  cases A <;> rfl
theorem Runs.eqNil {t u : TypeId} {x y : Operand} {A : Option Addr} {n c e : Nat} (ho : o.op = .binOp .eql t x y u) (hx : ev σ x = .slice A n c) (hy : ev σ y = .slice none 0 0) (ht : ∀ w, (underlying t).run P w = .ok (.slice e) w) : Runs P σ w o (.bool A.isNone) w :=
  ⟨by rw [ho]; rfl, by simp [execOp, ho, hx, hy, binOp, eqGuard, nilSl ht rfl A n c]⟩
theorem Runs.neNil {t u : TypeId} {x y : Operand} {A : Option Addr} {n c e : Nat} (ho : o.op = .binOp .neq t x y u) (hx : ev σ x = .slice A n c) (hy : ev σ y = .slice none 0 0) (ht : ∀ w, (underlying t).run P w = .ok (.slice e) w) : Runs P σ w o (.bool !A.isNone) w :=
  ⟨by rw [ho]; rfl, by simp [execOp, ho, hx, hy, binOp, eqGuard, nilSl ht rfl A n c]⟩

/-! elements that hold addresses -/
structure Rl (α : Type) where
  sz : Nat
  r : PHeap → α → List Value → Prop
  mono : ∀ φ φ' x vs, r φ x vs → PHeap.Le φ φ' → r φ' x vs
  len : ∀ φ x vs, r φ x vs → vs.length = sz
  one : ∀ φ x vs, r φ x vs → vs.all (·.oneCell') = true
/-- The cells cs are those of the elements xs. -/
def RlL {α : Type} (φ : PHeap) (R : Rl α) (xs : List α) (cs : List Value) : Prop :=
  ∃ vss : List (List Value), vss.length = xs.length ∧ (∀ (i : Nat) (x : α) (vs : List Value), xs[i]? = some x → vss[i]? = some vs → R.r φ x vs) ∧ cs = vss.flatten
theorem RlL.le {α : Type} {φ φ' : PHeap} {R : Rl α} {xs : List α} {cs : List Value} (h : RlL φ R xs cs) (hl : PHeap.Le φ φ') : RlL φ' R xs cs := by
  obtain ⟨vss, h1, h2, h3⟩ := h
  exact ⟨vss, h1, fun i x vs hx hv => R.mono φ φ' x vs (h2 i x vs hx hv) hl, h3⟩
theorem flatten_len {vss : List (List Value)} {sz : Nat} (h : ∀ vs ∈ vss, vs.length = sz) : vss.flatten.length = vss.length * sz := by
  induction vss with
  | nil => simp
  | cons v l ih => rw [List.flatten_cons, List.length_append, ih fun vs hv => h vs (by simp [hv]), h v (by simp), List.length_cons, Nat.add_mul]; omega
theorem flatten_at {sz : Nat} : ∀ {vss : List (List Value)} (_ : ∀ vs ∈ vss, vs.length = sz) (i j : Nat) (vs : List Value) (v : Value), vss[i]? = some vs → vs[j]? = some v → vss.flatten[i * sz + j]? = some v
  | [], _, i, j, vs, v, hi, _ => by simp at hi
  | u :: l, h, 0, j, vs, v, hi, hj => by
    simp at hi; subst hi
    rw [List.flatten_cons, Nat.zero_mul, Nat.zero_add, List.getElem?_append_left (List.getElem?_eq_some_iff.1 hj).1]; exact hj
  | u :: l, h, i + 1, j, vs, v, hi, hj => by
    have ih := flatten_at (vss := l) (fun vs hv => h vs (by simp [hv])) i j vs v (by simpa using hi) hj
    have hu := h u (by simp)
    rw [List.flatten_cons, List.getElem?_append_right (by rw [hu, Nat.add_mul]; omega), hu, show (i + 1) * sz + j - sz = i * sz + j from by rw [Nat.add_mul]; omega]
    exact ih
theorem RlL.each {α : Type} {R : Rl α} {xs : List α} {vss : List (List Value)} (h1 : vss.length = xs.length) (h2 : ∀ (i : Nat) (x : α) (vs : List Value), xs[i]? = some x → vss[i]? = some vs → R.r φ x vs) : ∀ vs ∈ vss, ∃ x, R.r φ x vs := by
  intro vs hv
  obtain ⟨i, hi⟩ := List.getElem?_of_mem hv
  have hlt := (List.getElem?_eq_some_iff.1 hi).1
  exact ⟨xs[i]'(by omega), h2 i _ vs (List.getElem?_eq_getElem (by omega)) hi⟩
theorem RlL.len {α : Type} {R : Rl α} {xs : List α} {cs : List Value} (h : RlL φ R xs cs) : cs.length = xs.length * R.sz := by
  obtain ⟨vss, h1, h2, rfl⟩ := h
  rw [flatten_len (sz := R.sz) fun vs hv => by obtain ⟨x, hx⟩ := RlL.each h1 h2 vs hv; exact R.len _ _ _ hx, h1]
theorem RlL.one {α : Type} {R : Rl α} {xs : List α} {cs : List Value} (h : RlL φ R xs cs) : ∀ u ∈ cs, u.oneCell' = true := by
  obtain ⟨vss, h1, h2, rfl⟩ := h
  intro u hu
  obtain ⟨vs, hv, hu⟩ := List.mem_flatten.1 hu
  obtain ⟨x, hx⟩ := RlL.each h1 h2 vs hv
  exact List.all_eq_true.1 (R.one _ _ _ hx) u hu
theorem RlL.nil {α : Type} {R : Rl α} : RlL φ R ([] : List α) [] := ⟨[], rfl, fun i x vs hx => by simp at hx, rfl⟩
theorem RlL.append {α : Type} {R : Rl α} {xs ys : List α} {cs ds : List Value} (h : RlL φ R xs cs) (h' : RlL φ R ys ds) : RlL φ R (xs ++ ys) (cs ++ ds) := by
  obtain ⟨vss, h1, h2, rfl⟩ := h
  obtain ⟨uss, g1, g2, rfl⟩ := h'
  refine ⟨vss ++ uss, by simp [h1, g1], fun i x vs hx hv => ?_, by simp⟩
  rcases Nat.lt_or_ge i xs.length with hi | hi
  · rw [List.getElem?_append_left hi] at hx
    rw [List.getElem?_append_left (by omega)] at hv
    exact h2 i x vs hx hv
  · rw [List.getElem?_append_right hi] at hx
    rw [List.getElem?_append_right (by omega), h1] at hv
    exact g2 _ x vs hx hv
theorem RlL.cons {α : Type} {R : Rl α} {x : α} {xs : List α} {vs cs : List Value} (h0 : R.r φ x vs) (h : RlL φ R xs cs) : RlL φ R (x :: xs) (vs ++ cs) := by
  obtain ⟨vss, h1, h2, rfl⟩ := h
  refine ⟨vs :: vss, by simp [h1], fun i y us hy hu => ?_, by simp⟩
  cases i with
  | zero => simp at hy hu; subst hy hu; exact h0
  | succ i => exact h2 i y us (by simpa using hy) (by simpa using hu)
def SlR {α : Type} (φ : PHeap) (R : Rl α) (A : Option Addr) (c : Nat) (xs : List α) : Prop := ∃ cs, Sl φ R.sz A c xs.length cs ∧ RlL φ R xs cs
theorem SlR.le {α : Type} {φ φ' : PHeap} {R : Rl α} {A : Option Addr} {c : Nat} {xs : List α} (h : SlR φ R A c xs) (hl : PHeap.Le φ φ') : SlR φ' R A c xs := by
  obtain ⟨cs, h1, h2⟩ := h; exact ⟨cs, h1.le hl, h2.le hl⟩
theorem SlR.nil {α : Type} {R : Rl α} {A : Option Addr} {c : Nat} : SlR φ R A c ([] : List α) := ⟨[], Sl.nil _ _ _ _, RlL.nil⟩
theorem SlR.cap {α : Type} {R : Rl α} {A : Option Addr} {c : Nat} {xs : List α} (h : SlR φ R A c xs) : xs.length ≤ c := by obtain ⟨cs, h1, _⟩ := h; exact h1.cap
theorem SlR.el {α : Type} {R : Rl α} {A : Option Addr} {c : Nat} {xs : List α} (h : SlR φ R A c xs) {k : Nat} {x : α} (hx : xs[k]? = some x) :
    ∃ b off vs, A = some ⟨b, off, none⟩ ∧ Cl φ b (off + k * R.sz) vs ∧ R.r φ x vs := by
  obtain ⟨cs, h1, vss, g1, g2, rfl⟩ := h
  have hlt := (List.getElem?_eq_some_iff.1 hx).1
  have hv : vss[k]? = some (vss[k]'(by omega)) := List.getElem?_eq_getElem (by omega)
  rcases h1.mem with h0 | ⟨b, off, arr, T, fr, hA, h2, h3⟩
  · omega
  · refine ⟨b, off, vss[k]'(by omega), hA, ⟨arr, T, fr, h2, fun j v hj => ?_⟩, g2 k x _ hx hv⟩
    have := flatten_at (sz := R.sz) (fun vs hv => by obtain ⟨y, hy⟩ := RlL.each g1 g2 vs hv; exact R.len _ _ _ hy) k j _ v hv hj
    rw [← h3, List.getElem?_take] at this
    split at this
    · rw [List.getElem?_drop] at this
      rw [show off + k * R.sz + j = off + (k * R.sz + j) from by omega]
      simpa using this
    · cases this
theorem St.freezeRR {α : Type} {R : Rl α} {k c T sz : Nat} {A : Option Addr} {cs : List Value} {xs : List α} (h : St B φ L w) (hk : L[k]? = some (.row A c T sz cs)) (hr : RlL φ R xs cs) (hsz : R.sz = sz) (hz : 0 < sz) :
    ∃ φ', PHeap.Le φ φ' ∧ SlR φ' R A c xs ∧ St B φ' (L.eraseIdx k) w := by
  subst hsz
  obtain ⟨φ', h1, h2, h3⟩ := h.freezeR (n := xs.length) hk hr.len hz
  exact ⟨φ', h1, ⟨cs, h2, hr.le h1⟩, h3⟩
theorem SlR.src {α : Type} {R : Rl α} {A : Option Addr} {c : Nat} {xs : List α} (hS : St B φ L w) (h : SlR φ R A c xs) : ∃ cs, RlL φ R xs cs ∧ (xs.length = 0 ∨ ∃ a, A = some a ∧ ∀ j u, cs[j]? = some u → w.cell? (a.add j) = some u) := by
  obtain ⟨cs, h1, h2⟩ := h; exact ⟨cs, h2, hS.srcS h1⟩
/-- append(x, y...) where the elements hold addresses. -/
theorem OKS.appendR {α : Type} {R : Rl α} {t e sz j c c2 bytes : Nat} {A A2 : Option Addr} {inf : TypeInfo} {z : Value} {x y : Operand} {xs ys zs : List α} {cs ds : List Value}
    (ho : l[i]? = some o) (hd : o.dst = some d) (hN : Nat.blt d N = true) (hw : wanted l σ o = true) (hop : o.op = .call { callee := .builtin .append, args := #[x, y], argTypes := #[t, t] })
    (ht : P.underlying t = some (.slice e)) (hi : P.info? e = some inf) (hz : inf.zero = some z) (hsize : inf.size = sz) (hzs : z.cells.size = sz) (hsz : Nat.blt 0 sz = true) (hby : inf.bytes = bytes) (hb0 : Nat.blt 0 bytes = true) (hR : R.sz = sz)
    (hS : St B φ L w) (hk : L[j]? = some (.row A c e sz cs)) (hx : ev σ x = .slice A xs.length c) (hy : ev σ y = .slice A2 ys.length c2) (hc : RlL φ R xs cs) (hd' : RlL φ R ys ds)
    (hsrc : ys.length = 0 ∨ ∃ a, A2 = some a ∧ ∀ j u, ds[j]? = some u → w.cell? (a.add j) = some u) (happ : app bytes xs ys = some zs) (hne : mustX (kOf ks i) = false)
    (k : ∀ A' c' cs' w', St B φ (L.set j (.row A' c' e sz cs')) w' → RlL φ R zs cs' → OKS N P l Q D ks s (upd σ d (.slice A' zs.length c')) w') : OKS N P l Q D ks (.fx i s .stop) σ w := by
  obtain ⟨rfl, hb⟩ := app_eq happ
  refine OKS.appendC (n := xs.length) (m := ys.length) (news := ds) ho hd hN hw hop ht hi hz hsize hzs hsz hby hb0 hS hk hx (by rw [← hR]; exact hc.len) hy (by rw [← hR]; exact hd'.len) hsrc hd'.one hb hne ?_
  intro A' c' w' hS'
  have := k A' c' (cs ++ ds) w' hS' (hc.append hd')
  rwa [List.length_append] at this
end
end Go.KL
