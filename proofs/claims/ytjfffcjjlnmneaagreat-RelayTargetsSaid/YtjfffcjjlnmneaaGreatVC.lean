/- The operations over what is frozen and what is owned; joins and loops. -/
import Derived.Test.YtjfffcjjlnmneaaGreatVB
import Derived.Test.YtjfffcjjlnmneaaGreatVM
namespace Go.KL
open Go.RowKit

theorem wrap64_eq (n : Int) : IntKind.i64.wrap n = w64 n := by rw [IntKind.wrap_i64]; unfold w64; omega
theorem wrapu32_eq (n : Int) : IntKind.u32.wrap n = wu32 n := by rw [IntKind.wrap_u32]; rfl
theorem wrapu8_eq (n : Int) : IntKind.u8.wrap n = wu8 n := by rw [IntKind.wrap_u8]; rfl

section
variable {N : Nat} {P : Program} {l : List Oper} {Q : Post} {D : List Deferred} {ks : List Nat} {σ : Env} {w : World} {i d : Nat} {s : Sch} {o : Oper} {B : Base} {φ : PHeap} {L : List Res}

theorem put'_some {o : Oper} {d : Nat} (hd : o.dst = some d) (σ : Env) (v : Value) : put' σ o v = upd σ d v := by unfold put'; rw [hd]
theorem put'_none {o : Oper} (hd : o.dst = none) (σ : Env) (v : Value) : put' σ o v = σ := by unfold put'; rw [hd]
theorem dlt {o : Oper} {d N : Nat} (hd : o.dst = some d) (hN : Nat.blt d N = true) : ∀ e, o.dst = some e → e < N := by
  intro e he; rw [hd] at he; cases he; simpa [Nat.blt_eq] using hN
theorem dno {o : Oper} {N : Nat} (hd : o.dst = none) : ∀ e, o.dst = some e → e < N := by intro e he; rw [hd] at he; cases he
theorem OKS.r {v : Value} (ho : l[i]? = some o) (hd : o.dst = some d) (hN : Nat.blt d N = true) (hw : wanted l σ o = true) (hr : ∀ w', Runs P σ w' o v w')
    (k : OKS N P l Q D ks s (upd σ d v) w) : OKS N P l Q D ks (.fl i s) σ w :=
  ⟨o, ho, dlt hd hN, .inl ⟨hw, v, fun w' _ => hr w', ⟨fun _ => hr, fun _ w' _ => hr w'⟩, by rw [put'_some hd]; exact k⟩⟩
theorem OKS.m {v : Value} (ho : l[i]? = some o) (hd : o.dst = some d) (hN : Nat.blt d N = true) (hw : wanted l σ o = true) (hr : RunsK P σ w o v) (hk : mustK (kOf ks i) = false)
    (k : OKS N P l Q D ks s (upd σ d v) w) : OKS N P l Q D ks (.fl i s) σ w :=
  ⟨o, ho, dlt hd hN, .inl ⟨hw, v, hr, ⟨fun e => (by rw [e] at hk; cases hk), fun e => (by rw [e] at hk; cases hk)⟩, (by rw [put'_some hd]; exact k)⟩⟩
theorem OKS.p (ho : l[i]? = some o) (hd : o.dst = some d) (hN : Nat.blt d N = true) (hw : wanted l σ o = false)
    (k : OKS N P l Q D ks s (upd σ d undef) w) : OKS N P l Q D ks (.fl i s) σ w :=
  ⟨o, ho, dlt hd hN, .inr ⟨hw, by rw [put'_some hd]; exact k⟩⟩
theorem OKS.px (ho : l[i]? = some o) (hd : o.dst = some d) (hN : Nat.blt d N = true) (hw : wanted l σ o = false)
    (k : OKS N P l Q D ks s (upd σ d undef) w) : OKS N P l Q D ks (.fx i s .stop) σ w :=
  ⟨⟨o, ho, dlt hd hN, .inr ⟨hw, KeepD.refl l ks i w, by rw [put'_some hd]; exact k⟩⟩, trivial⟩
theorem OKS.pxn (ho : l[i]? = some o) (hd : o.dst = none) (hw : wanted l σ o = false)
    (k : OKS N P l Q D ks s σ w) : OKS N P l Q D ks (.fx i s .stop) σ w :=
  ⟨⟨o, ho, dno hd, .inr ⟨hw, KeepD.refl l ks i w, by rw [put'_none hd]; exact k⟩⟩, trivial⟩
theorem OKS.alt {t : Sch} (h : OKS N P l Q D ks (.fx i s .stop) σ w) (h' : OKS N P l Q D ks t σ w) : OKS N P l Q D ks (.fx i s t) σ w := ⟨h.1, h'⟩
/-- An operation that gives a value and adds to memory. -/
theorem OKS.v {v : Value} {w' : World} (ho : l[i]? = some o) (hd : o.dst = some d) (hN : Nat.blt d N = true) (hw : wanted l σ o = true) (hr : Runs P σ w o v w') (hk : mustX (kOf ks i) = false ∨ Keep w w' Non)
    (k : OKS N P l Q D ks s (upd σ d v) w') : OKS N P l Q D ks (.fx i s .stop) σ w :=
  ⟨⟨o, ho, dlt hd hN, .inl ⟨hw, .inr (.inl ⟨v, w', hr, KeepD.of hk, by rw [put'_some hd]; exact k⟩)⟩⟩, trivial⟩
theorem OKS.u {w' : World} (ho : l[i]? = some o) (hd : o.dst = none) (hw : wanted l σ o = true) (hr : Does P σ w o w') (hk : mustX (kOf ks i) = false ∨ Keep w w' Non)
    (k : OKS N P l Q D ks s σ w') : OKS N P l Q D ks (.fx i s .stop) σ w :=
  ⟨⟨o, ho, dno hd, .inl ⟨hw, .inl ⟨hd, w', hr, KeepD.of hk, by rw [put'_none hd]; exact k⟩⟩⟩, trivial⟩
theorem OKS.vn {v : Value} {w' : World} (ho : l[i]? = some o) (hd : o.dst = none) (hw : wanted l σ o = true) (hr : Runs P σ w o v w') (hk : mustX (kOf ks i) = false ∨ Keep w w' Non)
    (k : OKS N P l Q D ks s σ w') : OKS N P l Q D ks (.fx i s .stop) σ w :=
  ⟨⟨o, ho, dno hd, .inl ⟨hw, .inr (.inl ⟨v, w', hr, KeepD.of hk, by rw [put'_none hd]; exact k⟩)⟩⟩, trivial⟩
theorem OKS.mx {v : Value} (ho : l[i]? = some o) (hd : o.dst = some d) (hN : Nat.blt d N = true) (hw : wanted l σ o = true) (hr : RunsK P σ w o v) (hk : mustX (kOf ks i) = false)
    (k : OKS N P l Q D ks s (upd σ d v) w) : OKS N P l Q D ks (.fx i s .stop) σ w := OKS.v ho hd hN hw (hr w (Keep.refl w _)) (.inl hk) k
/-- What a call leaves: a state in which the callee's own resources have become L'. -/
def RetS (w : World) (own : List Res) (φ : PHeap) (Post : PHeap → List Res → Value → Prop) : Value → World → Prop := fun v w' => ∃ φ' L', St ⟨w, own, φ⟩ φ' L' w' ∧ Post φ' L' v
theorem OKS.callH {f : FuncId} {args : List Value} {Post : PHeap → List Res → Value → Prop} (n : Nat) (ho : l[i]? = some o) (hd : o.dst = some d) (hN : Nat.blt d N = true) (hw : wanted l σ o = true) (he : Enters P σ w o f args) (hS : St B φ L w)
    (hf : St ⟨w, L.take n, φ⟩ φ (L.take n) w → Gv P f args w (RetS w (L.take n) φ Post)) (hk : mustX (kOf ks i) = false ∨ n = 0)
    (k : ∀ φ' L' v w', PHeap.Le φ φ' → St B φ' (L' ++ L.drop n) w' → Post φ' L' v → OKS N P l Q D ks s (upd σ d v) w') : OKS N P l Q D ks (.fx i s .stop) σ w := by
  refine ⟨⟨o, ho, dlt hd hN, .inl ⟨hw, .inr (.inr (.inl ⟨f, args, _, he, hf (hS.enterH n), ?_⟩))⟩⟩, trivial⟩
  rintro v w' ⟨φ', L', h1, h2⟩
  obtain ⟨h3, h4⟩ := hS.backH n h1
  refine ⟨KeepD.of ?_, by rw [put'_some hd]; exact k φ' L' v w' h4 h3 h2⟩
  rcases hk with hk | rfl
  · exact .inl hk
  · exact .inr <| h1.kp.weak fun b _ ⟨r, hr, _⟩ => by simp at hr
theorem OKS.callHn {f : FuncId} {args : List Value} {Post : PHeap → List Res → Value → Prop} (n : Nat) (ho : l[i]? = some o) (hd : o.dst = none) (hw : wanted l σ o = true) (he : Enters P σ w o f args) (hS : St B φ L w)
    (hf : St ⟨w, L.take n, φ⟩ φ (L.take n) w → Gv P f args w (RetS w (L.take n) φ Post)) (hk : mustX (kOf ks i) = false ∨ n = 0)
    (k : ∀ φ' L' v w', PHeap.Le φ φ' → St B φ' (L' ++ L.drop n) w' → Post φ' L' v → OKS N P l Q D ks s σ w') : OKS N P l Q D ks (.fx i s .stop) σ w := by
  refine ⟨⟨o, ho, dno hd, .inl ⟨hw, .inr (.inr (.inl ⟨f, args, _, he, hf (hS.enterH n), ?_⟩))⟩⟩, trivial⟩
  rintro v w' ⟨φ', L', h1, h2⟩
  obtain ⟨h3, h4⟩ := hS.backH n h1
  refine ⟨KeepD.of ?_, by rw [put'_none hd]; exact k φ' L' v w' h4 h3 h2⟩
  rcases hk with hk | rfl
  · exact .inl hk
  · exact .inr <| h1.kp.weak fun b _ ⟨r, hr, _⟩ => by simp at hr

/-! guards -/
theorem wantedY {j d : Nat} {b : Bool} (hg : o.guard = some (j, b)) (hd : (l[j]?).bind (·.dst) = some d) (h : σ d = .bool b) : wanted l σ o = true := by
  simp [wanted, hg, hd, h]
theorem wantedU {j d : Nat} {b : Bool} (hg : o.guard = some (j, b)) (hd : (l[j]?).bind (·.dst) = some d) (h : σ d = undef) : wanted l σ o = false := by
  simp [wanted, hg, hd, h, undef]
theorem wantedN {j d : Nat} {b b' : Bool} (hg : o.guard = some (j, b)) (hd : (l[j]?).bind (·.dst) = some d) (h : σ d = .bool b') (hne : (b' == b) = false) : wanted l σ o = false := by
  simp [wanted, hg, hd, h, hne]

/-! numbers -/
theorem Runs.addw {t u : TypeId} {x y : Operand} {m n : Int} (ho : o.op = .binOp .add t x y u) (hx : ev σ x = .int .i64 m) (hy : ev σ y = .int .i64 n) : Runs P σ w o (.int .i64 (w64 (m + n))) w :=
  ⟨by rw [ho]; rfl, by simp [execOp, ho, hx, hy, binOp, eqGuard, Op.intArith, wrap64_eq]⟩
theorem Runs.subw {t u : TypeId} {x y : Operand} {m n : Int} (ho : o.op = .binOp .sub t x y u) (hx : ev σ x = .int .i64 m) (hy : ev σ y = .int .i64 n) : Runs P σ w o (.int .i64 (w64 (m - n))) w :=
  ⟨by rw [ho]; rfl, by simp [execOp, ho, hx, hy, binOp, eqGuard, Op.intArith, wrap64_eq]⟩
theorem Runs.mulw {t u : TypeId} {x y : Operand} {m n : Int} (ho : o.op = .binOp .mul t x y u) (hx : ev σ x = .int .i64 m) (hy : ev σ y = .int .i64 n) : Runs P σ w o (.int .i64 (w64 (m * n))) w :=
  ⟨by rw [ho]; rfl, by simp [execOp, ho, hx, hy, binOp, eqGuard, Op.intArith, wrap64_eq]⟩
theorem Runs.addu {t u : TypeId} {x y : Operand} {m n : Int} (ho : o.op = .binOp .add t x y u) (hx : ev σ x = .int .u32 m) (hy : ev σ y = .int .u32 n) : Runs P σ w o (.int .u32 (wu32 (m + n))) w :=
  ⟨by rw [ho]; rfl, by simp [execOp, ho, hx, hy, binOp, eqGuard, Op.intArith, wrapu32_eq]⟩
theorem Runs.subu {t u : TypeId} {x y : Operand} {m n : Int} (ho : o.op = .binOp .sub t x y u) (hx : ev σ x = .int .u32 m) (hy : ev σ y = .int .u32 n) : Runs P σ w o (.int .u32 (wu32 (m - n))) w :=
  ⟨by rw [ho]; rfl, by simp [execOp, ho, hx, hy, binOp, eqGuard, Op.intArith, wrapu32_eq]⟩
theorem Runs.mulu {t u : TypeId} {x y : Operand} {m n : Int} (ho : o.op = .binOp .mul t x y u) (hx : ev σ x = .int .u32 m) (hy : ev σ y = .int .u32 n) : Runs P σ w o (.int .u32 (wu32 (m * n))) w :=
  ⟨by rw [ho]; rfl, by simp [execOp, ho, hx, hy, binOp, eqGuard, Op.intArith, wrapu32_eq]⟩
theorem Runs.negw {t : TypeId} {x : Operand} {m : Int} (ho : o.op = .unOp .neg t x) (hx : ev σ x = .int .i64 m) : Runs P σ w o (.int .i64 (w64 (-m))) w :=
  ⟨by rw [ho]; rfl, by simp [execOp, ho, hx, Op.unary, Op.intArith, wrap64_eq]⟩
theorem Runs.rem {k : IntKind} {t u : TypeId} {x y : Operand} {m n r : Int} (ho : o.op = .binOp .rem t x y u) (hx : ev σ x = .int k m) (hy : ev σ y = .int k n) (h : KL.rem m n = some r) : Runs P σ w o (.int k r) w := by
  obtain ⟨h1, rfl⟩ := rem_ne h
  exact ⟨by rw [ho]; rfl, by simp [execOp, ho, hx, hy, binOp, eqGuard, Op.intDiv, h1]⟩
theorem Runs.quo {t u : TypeId} {x y : Operand} {m n r : Int} (ho : o.op = .binOp .quo t x y u) (hx : ev σ x = .int .i64 m) (hy : ev σ y = .int .i64 n) (h : KL.quo m n = some r) : Runs P σ w o (.int .i64 r) w := by
  obtain ⟨h1, rfl⟩ := quo_ne h
  exact ⟨by rw [ho]; rfl, by simp [execOp, ho, hx, hy, binOp, eqGuard, Op.intDiv, h1, wrap64_eq]⟩
theorem Runs.quou {t u : TypeId} {x y : Operand} {m n r : Int} (ho : o.op = .binOp .quo t x y u) (hx : ev σ x = .int .u32 m) (hy : ev σ y = .int .u32 n) (h : KL.quou m n = some r) : Runs P σ w o (.int .u32 r) w := by
  obtain ⟨h1, rfl⟩ := quou_ne h
  exact ⟨by rw [ho]; rfl, by simp [execOp, ho, hx, hy, binOp, eqGuard, Op.intDiv, h1, wrapu32_eq]⟩
theorem Runs.cvw {s' t : TypeId} {k : IntKind} {x : Operand} {m : Int} {u u2 : TypeDesc} (ho : o.op = .convert s' t x) (hx : ev σ x = .int k m) (hs : ∀ w, (underlying s').run P w = .ok u2 w) (ht : ∀ w, (underlying t).run P w = .ok u w) (hu2 : u2 = .int k) (hu : u = .int .i64) : Runs P σ w o (.int .i64 (w64 m)) w :=
  ⟨by rw [ho]; rfl, by subst hu hu2; simp [execOp, ho, hx, convert, hs, ht, Conv.intToInt, wrap64_eq]⟩
theorem Runs.cvu {s' t : TypeId} {k : IntKind} {x : Operand} {m : Int} {u u2 : TypeDesc} (ho : o.op = .convert s' t x) (hx : ev σ x = .int k m) (hs : ∀ w, (underlying s').run P w = .ok u2 w) (ht : ∀ w, (underlying t).run P w = .ok u w) (hu2 : u2 = .int k) (hu : u = .int .u32) : Runs P σ w o (.int .u32 (wu32 m)) w :=
  ⟨by rw [ho]; rfl, by subst hu hu2; simp [execOp, ho, hx, convert, hs, ht, Conv.intToInt, wrapu32_eq]⟩
theorem wrapu64_eq (n : Int) : IntKind.u64.wrap n = wu64 n := by rw [IntKind.wrap_u64]; rfl
theorem Runs.cv64 {s' t : TypeId} {k : IntKind} {x : Operand} {m : Int} {u u2 : TypeDesc} (ho : o.op = .convert s' t x) (hx : ev σ x = .int k m) (hs : ∀ w, (underlying s').run P w = .ok u2 w) (ht : ∀ w, (underlying t).run P w = .ok u w) (hu2 : u2 = .int k) (hu : u = .int .u64) : Runs P σ w o (.int .u64 (wu64 m)) w :=
  ⟨by rw [ho]; rfl, by subst hu hu2; simp [execOp, ho, hx, convert, hs, ht, Conv.intToInt, wrapu64_eq]⟩
theorem Runs.cv8 {s' t : TypeId} {k : IntKind} {x : Operand} {m : Int} {u u2 : TypeDesc} (ho : o.op = .convert s' t x) (hx : ev σ x = .int k m) (hs : ∀ w, (underlying s').run P w = .ok u2 w) (ht : ∀ w, (underlying t).run P w = .ok u w) (hu2 : u2 = .int k) (hu : u = .int .u8) : Runs P σ w o (.int .u8 (wu8 m)) w :=
  ⟨by rw [ho]; rfl, by subst hu hu2; simp [execOp, ho, hx, convert, hs, ht, Conv.intToInt, wrapu8_eq]⟩
theorem Runs.min {x y : Operand} {m n : Int} {ty : Array TypeId} (ho : o.op = .call { callee := .builtin .min, args := #[x, y], argTypes := ty }) (hx : ev σ x = .int .i64 m) (hy : ev σ y = .int .i64 n) : Runs P σ w o (.int .i64 (Min.min m n)) w :=
  ⟨by rw [ho]; rfl, by
    have : (if n < m then n else m) = Min.min m n := by rw [Int.min_def]; split <;> split <;> omega
    simp [execOp, ho, resolve, invoke, builtin, Builtin.min_, Builtin.min2, hx, hy, this]⟩
theorem Runs.max {x y : Operand} {m n : Int} {ty : Array TypeId} (ho : o.op = .call { callee := .builtin .max, args := #[x, y], argTypes := ty }) (hx : ev σ x = .int .i64 m) (hy : ev σ y = .int .i64 n) : Runs P σ w o (.int .i64 (Max.max m n)) w :=
  ⟨by rw [ho]; rfl, by
    have : (if m < n then n else m) = Max.max m n := by rw [Int.max_def]; split <;> split <;> omega
    simp [execOp, ho, resolve, invoke, builtin, Builtin.max_, Builtin.max2, hx, hy, this]⟩
theorem eqBool {t : TypeId} (ht : ∀ w, (underlying t).run P w = .ok .bool w) (m n : Bool) (w : World) : (Op.equal t (.bool m) (.bool n)).run P w = .ok (m == n) w := by
  unfold Op.equal Op.maxDepth
  rw [show (10000 : Nat) = 9999 + 1 from rfl, Op.equalIn]
  simp only [Sem.run_bind, ht, Result.andThen_ok, Sem.run_pure]
theorem Runs.eqB {t u : TypeId} {x y : Operand} {m n : Bool} (ho : o.op = .binOp .eql t x y u) (hx : ev σ x = .bool m) (hy : ev σ y = .bool n) (ht : ∀ w, (underlying t).run P w = .ok .bool w) : Runs P σ w o (.bool (m == n)) w :=
  ⟨by rw [ho]; rfl, by simp [execOp, ho, hx, hy, binOp, eqGuard, eqBool ht]⟩
theorem Runs.neB {t u : TypeId} {x y : Operand} {m n : Bool} (ho : o.op = .binOp .neq t x y u) (hx : ev σ x = .bool m) (hy : ev σ y = .bool n) (ht : ∀ w, (underlying t).run P w = .ok .bool w) : Runs P σ w o (.bool (!(m == n))) w :=
  ⟨by rw [ho]; rfl, by simp [execOp, ho, hx, hy, binOp, eqGuard, eqBool ht]⟩
/-- Two structs are held against each other. -/
def EqT {α : Type} [DecidableEq α] (P : Program) (t : TypeId) (enc : α → List Value) : Prop :=
  ∀ x y w, (Op.equal t (.agg (enc x).toArray) (.agg (enc y).toArray)).run P w = .ok (decide (x = y)) w
theorem Runs.eqS {α : Type} [DecidableEq α] {t u : TypeId} {x y : Operand} {enc : α → List Value} {a b : α} (ho : o.op = .binOp .eql t x y u) (hx : ev σ x = .agg (enc a).toArray) (hy : ev σ y = .agg (enc b).toArray) (hE : EqT P t enc) (hg : P.eqGuardType P.depth t = false) : Runs P σ w o (.bool (decide (a = b))) w :=
  ⟨by rw [ho]; rfl, by simp [execOp, ho, hx, hy, binOp, eqGuard, hE a b, hg]⟩
theorem Runs.neS {α : Type} [DecidableEq α] {t u : TypeId} {x y : Operand} {enc : α → List Value} {a b : α} (ho : o.op = .binOp .neq t x y u) (hx : ev σ x = .agg (enc a).toArray) (hy : ev σ y = .agg (enc b).toArray) (hE : EqT P t enc) (hg : P.eqGuardType P.depth t = false) : Runs P σ w o (.bool (!decide (a = b))) w :=
  ⟨by rw [ho]; rfl, by simp [execOp, ho, hx, hy, binOp, eqGuard, hE a b, hg]⟩

/-! memory -/
theorem OKS.alloc {t : TypeId} {z : Value} {cs : List Value} (ho : l[i]? = some o) (hd : o.dst = some d) (hN : Nat.blt d N = true) (hw : wanted l σ o = true) (hop : o.op = .alloc t) (hz : ∀ w, (zeroValue t).run P w = .ok z w) (hc : z.cells = cs.toArray) (hS : St B φ L w)
    (k : ∀ w' b, St B φ (.blk b t cs :: L) w' → OKS N P l Q D ks s (upd σ d (.pointer (some ⟨b, 0, none⟩))) w') : OKS N P l Q D ks (.fx i s .stop) σ w := by
  refine OKS.v (v := .pointer (some ⟨w.heap.size, 0, none⟩)) (w' := w.alloc (.cells cs.toArray t)) ho hd hN hw ⟨by rw [hop]; rfl, ?_⟩ (.inr (alloc_keep w _)) (k _ _ (hS.new (alloc_keep w _) (alloc_blk w cs t) rfl (Nat.le_refl _)))
  simp [execOp, hop, Instr.alloc, hz, newVar, newRow, newObj, hc, Sem.run]
theorem OKS.box {t : TypeId} {x : Operand} {v : Value} {cs : List Value} (ho : l[i]? = some o) (hd : o.dst = some d) (hN : Nat.blt d N = true) (hw : wanted l σ o = true) (hop : o.op = .box t x) (hx : ev σ x = v) (hc : v.cells = cs.toArray) (hS : St B φ L w)
    (k : ∀ w' b, St B φ (.blk b t cs :: L) w' → OKS N P l Q D ks s (upd σ d (.pointer (some ⟨b, 0, none⟩))) w') : OKS N P l Q D ks (.fx i s .stop) σ w := by
  subst hx
  refine OKS.v (v := .pointer (some ⟨w.heap.size, 0, none⟩)) (w' := w.alloc (.cells cs.toArray t)) ho hd hN hw ⟨by rw [hop]; rfl, ?_⟩ (.inr (alloc_keep w _)) (k _ _ (hS.new (alloc_keep w _) (alloc_blk w cs t) rfl (Nat.le_refl _)))
  simp [execOp, hop, Instr.box, newVar, newRow, newObj, hc, Sem.run]
theorem OKS.st {t T : TypeId} {x y : Operand} {j b off : Nat} {v : Value} {vs cs cs' : List Value} (ho : l[i]? = some o) (hd : o.dst = none) (hw : wanted l σ o = true) (hop : o.op = .store t x y) (hS : St B φ L w) (hk : L[j]? = some (.blk b T cs))
    (hx : ev σ x = .pointer (some ⟨b, off, none⟩)) (hy : ev σ y = v) (hc : v.cells = vs.toArray) (hsz : ∀ w, (sizeOf t).run P w = .ok vs.length w) (hlt : off + vs.length ≤ cs.length) (h1 : vs.all one = true) (hcs : setN cs off vs = cs') (hne : mustX (kOf ks i) = false)
    (k : ∀ w', St B φ (L.set j (.blk b T cs')) w' → OKS N P l Q D ks s σ w') : OKS N P l Q D ks (.fx i s .stop) σ w := by
  subst hy hcs
  obtain ⟨w', h2, h3, h4, h5⟩ := run_storeCells (P := P) (T := T) off vs 0 cs w (hS.blkAt hk) hlt (List.all_eq_true.1 h1)
  refine OKS.u (w' := w') ho hd hw ⟨by rw [hop]; rfl, ?_⟩ (.inl hne) (k w' (hS.set hk (h4.weak fun x _ e => by rw [e]; rfl) h3 fun b hb => .inl hb))
  simp [execOp, hop, Instr.storeAt, hx, Instr.sureAddr, storeVar, hc, hsz, h2]
theorem RowAt.cells {w : World} {c T sz b : Nat} {cs : List Value} (h : RowAt w (some ⟨b, 0, none⟩) c T sz cs) : ∃ cur, w.heap[b]? = some (.cells cur T (0, 0)) ∧ cs.length ≤ c * sz ∧ c ≤ maxLen ∧ cur.size = c * sz ∧ cur.toList.take cs.length = cs := by
  rcases h with ⟨h, _⟩ | ⟨b', cur, h, h1⟩
  · cases h
  · cases h; exact ⟨cur, h1⟩
theorem setN_take (vs : List Value) : ∀ (l : List Value) (off n : Nat), off + vs.length ≤ n → (setN l off vs).take n = setN (l.take n) off vs := by
  induction vs with
  | nil => intro l off n _; rfl
  | cons v vs ih =>
    intro l off n h
    simp only [setN]
    rw [ih _ _ _ (by simp at h; omega), List.take_set]
theorem OKS.stR {t T : TypeId} {x y : Operand} {j b c sz off : Nat} {A : Option Addr} {v : Value} {vs cs cs' : List Value} (ho : l[i]? = some o) (hd : o.dst = none) (hw : wanted l σ o = true) (hop : o.op = .store t x y) (hS : St B φ L w) (hk : L[j]? = some (.row A c T sz cs)) (hA : A = some ⟨b, 0, none⟩)
    (hx : ev σ x = .pointer (some ⟨b, off, none⟩)) (hy : ev σ y = v) (hc : v.cells = vs.toArray) (hsz : ∀ w, (sizeOf t).run P w = .ok vs.length w) (hlt : off + vs.length ≤ cs.length) (h1 : vs.all one = true) (hcs : setN cs off vs = cs') (hne : mustX (kOf ks i) = false)
    (k : ∀ w', St B φ (L.set j (.row A c T sz cs')) w' → OKS N P l Q D ks s σ w') : OKS N P l Q D ks (.fx i s .stop) σ w := by
  subst hA
  subst hy hcs
  obtain ⟨cur, g1, g2, g3, g4, g5⟩ := RowAt.cells (hS.at_ _ (List.mem_of_getElem? hk))
  have hB : Blk w b T cur.toList := by unfold Blk; rw [g1]
  have hcl : cs.length ≤ cur.toList.length := by rw [← g5]; simp; omega
  obtain ⟨w', h2, h3, h4, h5⟩ := run_storeCells (P := P) (T := T) off vs 0 cur.toList w hB (by omega) (List.all_eq_true.1 h1)
  refine OKS.u (w' := w') ho hd hw ⟨by rw [hop]; rfl, ?_⟩ (.inl hne) (k w' (hS.set hk (h4.weak fun x _ e => by rw [e]; rfl) (.inr ⟨b, (setN cur.toList (off + 0) vs).toArray, rfl, h3, ?_, g3, ?_, ?_⟩) fun b hb => .inl hb))
  · simp [execOp, hop, Instr.storeAt, hx, Instr.sureAddr, storeVar, hc, hsz, h2]
  · rw [setN_length]; exact g2
  · simp [setN_length, g4]
  · rw [setN_length, Nat.add_zero]
    show (setN cur.toList off vs).take cs.length = _
    rw [setN_take _ _ _ _ hlt, g5]
theorem St.ldB {t T : TypeId} {x : Operand} {j b off : Nat} {cs : List Value} {v : Value} (hS : St B φ L w) (hk : L[j]? = some (.blk b T cs)) (hop : o.op = .load t x) (hx : ev σ x = .pointer (some ⟨b, off, none⟩)) (hag : ∀ w, (isAgg t).run P w = .ok false w) (hv : cs[off]? = some v) : RunsK P σ w o v :=
  fun _ k => Runs.ldB hop hx hag ((hS.grow k).blkAt hk) hv
theorem St.ldBA {t T : TypeId} {x : Operand} {j b off n : Nat} {cs vs : List Value} (hS : St B φ L w) (hk : L[j]? = some (.blk b T cs)) (hop : o.op = .load t x) (hx : ev σ x = .pointer (some ⟨b, off, none⟩)) (hag : ∀ w, (isAgg t).run P w = .ok true w) (hsz : ∀ w, (sizeOf t).run P w = .ok n w) (hv : (cs.drop off).take n = vs) (hn : vs.length = n) : RunsK P σ w o (.agg vs.toArray) :=
  fun _ k => Runs.ldBA hop hx hag hsz ((hS.grow k).blkAt hk) hv hn
theorem St.rowCell {j b c T sz off : Nat} {cs : List Value} {v : Value} (hS : St B φ L w) (hk : L[j]? = some (.row (some ⟨b, 0, none⟩) c T sz cs)) (hv : cs[off]? = some v) : w.cell? ⟨b, off, none⟩ = some v := by
  obtain ⟨cur, g1, g2, g3, g4, g5⟩ := RowAt.cells (hS.at_ _ (List.mem_of_getElem? hk))
  have : cur[off]? = some v := by
    rw [← g5, List.getElem?_take] at hv
    split at hv
    · simpa using hv
    · cases hv
  simp [World.cell?, g1, this]
theorem St.ldR {t T : TypeId} {x : Operand} {j b off c sz : Nat} {A : Option Addr} {cs : List Value} {v : Value} (hS : St B φ L w) (hk : L[j]? = some (.row A c T sz cs)) (hA : A = some ⟨b, 0, none⟩) (hop : o.op = .load t x) (hx : ev σ x = .pointer (some ⟨b, off, none⟩)) (hag : ∀ w, (isAgg t).run P w = .ok false w) (hv : cs[off]? = some v) : RunsK P σ w o v :=
  fun _ k => Runs.ld hop hx hag ((hS.grow k).rowCell (hA ▸ hk) hv)
theorem sub_cells {cs vs : List Value} {off n : Nat} (hv : (cs.drop off).take n = vs) : ∀ j v, vs[j]? = some v → cs[off + j]? = some v := by
  intro j v hj
  subst hv
  rw [List.getElem?_take] at hj
  split at hj
  · rwa [List.getElem?_drop] at hj
  · cases hj
theorem St.ldRA {t T : TypeId} {x : Operand} {j b off c sz n : Nat} {A : Option Addr} {cs vs : List Value} (hS : St B φ L w) (hk : L[j]? = some (.row A c T sz cs)) (hA : A = some ⟨b, 0, none⟩) (hop : o.op = .load t x) (hx : ev σ x = .pointer (some ⟨b, off, none⟩)) (hag : ∀ w, (isAgg t).run P w = .ok true w) (hsz : ∀ w, (sizeOf t).run P w = .ok n w) (hv : (cs.drop off).take n = vs) (hn : vs.length = n) : RunsK P σ w o (.agg vs.toArray) :=
  fun _ k => Runs.ldA hop hx hag hsz hn fun j v hj => (hS.grow k).rowCell (hA ▸ hk) (sub_cells hv j v hj)
/-- Cells in frozen memory. -/
def Cl (φ : PHeap) (b off : Nat) (vs : List Value) : Prop := ∃ arr T fr, φ b = some (.cells arr T fr) ∧ ∀ j v, vs[j]? = some v → arr[off + j]? = some v
theorem Cl.le {φ φ' : PHeap} {b off : Nat} {vs : List Value} (h : Cl φ b off vs) (hl : PHeap.Le φ φ') : Cl φ' b off vs := by
  obtain ⟨arr, T, fr, h1, h2⟩ := h
  exact ⟨arr, T, fr, hl _ _ h1, h2⟩
theorem Cl.cell {b off f : Nat} {vs : List Value} {v : Value} (h : Cl φ b off vs) (hS : St B φ L w) (hv : vs[f]? = some v) : w.cell? ⟨b, off + f, none⟩ = some v := by
  obtain ⟨arr, T, fr, h1, h2⟩ := h
  simp [World.cell?, hS.fro _ _ h1, h2 f v hv]
theorem Cl.of {b : Nat} {T : TypeId} {cs : List Value} (h : φ b = some (.cells cs.toArray T (0, 0))) : Cl φ b 0 cs := ⟨_, _, _, h, fun j v hv => by simpa using hv⟩
theorem St.ldC {t : TypeId} {x : Operand} {b off f : Nat} {vs : List Value} {v : Value} (hS : St B φ L w) (hC : Cl φ b off vs) (hop : o.op = .load t x) (hx : ev σ x = .pointer (some ⟨b, off + f, none⟩)) (hag : ∀ w, (isAgg t).run P w = .ok false w) (hv : vs[f]? = some v) : RunsK P σ w o v :=
  fun _ k => Runs.ld hop hx hag (hC.cell (hS.grow k) hv)
theorem St.ldCA {t : TypeId} {x : Operand} {b off f n : Nat} {vs us : List Value} (hS : St B φ L w) (hC : Cl φ b off vs) (hop : o.op = .load t x) (hx : ev σ x = .pointer (some ⟨b, off + f, none⟩)) (hag : ∀ w, (isAgg t).run P w = .ok true w) (hsz : ∀ w, (sizeOf t).run P w = .ok n w) (hv : (vs.drop f).take n = us) (hn : us.length = n) : RunsK P σ w o (.agg us.toArray) :=
  fun _ k => Runs.ldA hop hx hag hsz hn fun j v hj => by
    rw [Nat.add_assoc]; exact hC.cell (hS.grow k) (sub_cells hv j v hj)

theorem flatMap_at {α : Type} {f : α → List Value} {sz : Nat} (hf : ∀ x, (f x).length = sz) : ∀ (l : List α) (i j : Nat) (x : α) (v : Value), l[i]? = some x → (f x)[j]? = some v → (l.flatMap f)[i * sz + j]? = some v
  | [], i, j, x, v, hi, hj => by simp at hi
  | y :: l, 0, j, x, v, hi, hj => by
    simp at hi; subst hi
    have : j < (f y).length := by
      rcases Nat.lt_or_ge j (f y).length with h | h
      · exact h
      · rw [List.getElem?_eq_none h] at hj; cases hj
    simp only [List.flatMap_cons, Nat.zero_mul, Nat.zero_add]
    rw [List.getElem?_append_left this]; exact hj
  | y :: l, i + 1, j, x, v, hi, hj => by
    have ih := flatMap_at hf l i j x v (by simpa using hi) hj
    simp only [List.flatMap_cons]
    rw [List.getElem?_append_right (by rw [hf, Nat.add_mul]; omega), hf, show (i + 1) * sz + j - sz = i * sz + j from by rw [Nat.add_mul]; omega]
    exact ih
theorem flatMap_len {α : Type} {f : α → List Value} {sz : Nat} (hf : ∀ x, (f x).length = sz) (l : List α) : (l.flatMap f).length = l.length * sz := by
  induction l with
  | nil => simp
  | cons x l ih => simp [ih, hf, Nat.add_mul]; omega
/-- An element of a frozen slice. -/
theorem Sl.el {α : Type} {sz c : Nat} {A : Option Addr} {enc : α → List Value} {xs : List α} (h : Sl φ sz A c xs.length (xs.flatMap enc)) (hf : ∀ x, (enc x).length = sz) {k : Nat} {x : α} (hx : xs[k]? = some x) :
    ∃ b off, A = some ⟨b, off, none⟩ ∧ Cl φ b (off + k * sz) (enc x) := by
  have hlt := (List.getElem?_eq_some_iff.1 hx).1
  rcases h.mem with h0 | ⟨b, off, arr, T, fr, hA, h2, h3⟩
  · omega
  · refine ⟨b, off, hA, arr, T, fr, h2, fun j v hj => ?_⟩
    have := flatMap_at hf xs k j x v hx hj
    rw [← h3, List.getElem?_take] at this
    split at this
    · rw [List.getElem?_drop] at this
      rw [show off + k * sz + j = off + (k * sz + j) from by omega]
      simpa using this
    · cases this
theorem St.rowSome {j c T sz : Nat} {A : Option Addr} {cs : List Value} (hS : St B φ L w) (hk : L[j]? = some (.row A c T sz cs)) (hn : 0 < cs.length) : ∃ b, A = some ⟨b, 0, none⟩ := by
  rcases hS.at_ _ (List.mem_of_getElem? hk) with ⟨_, _, rfl⟩ | ⟨b, cur, h, _⟩
  · simp at hn
  · exact ⟨b, h⟩
theorem setN_append_right (vs : List Value) : ∀ (p l : List Value) (off : Nat), setN (p ++ l) (p.length + off) vs = p ++ setN l off vs := by
  induction vs with
  | nil => intro p l off; rfl
  | cons v vs ih =>
    intro p l off
    simp only [setN]
    rw [List.set_append_right _ _ (by omega), show p.length + off - p.length = off from by omega, show p.length + off + 1 = p.length + (off + 1) from by omega, ih]
theorem setN_append_left (vs : List Value) : ∀ (p l : List Value) (off : Nat), off + vs.length ≤ p.length → setN (p ++ l) off vs = setN p off vs ++ l := by
  induction vs with
  | nil => intro p l off _; rfl
  | cons v vs ih =>
    intro p l off h
    simp only [setN]
    simp only [List.length_cons] at h
    rw [List.set_append_left _ _ (by omega), ih _ _ _ (by simp; omega)]
/-- A store into an element. -/
theorem setN_flatMap {α : Type} {f : α → List Value} {sz : Nat} (hf : ∀ x, (f x).length = sz) {vs : List Value} {off : Nat} : ∀ (l : List α) (k : Nat) (x y : α), l[k]? = some x → off + vs.length ≤ sz → setN (f x) off vs = f y → setN (l.flatMap f) (k * sz + off) vs = (l.set k y).flatMap f
  | [], k, x, y, hk, _, _ => by simp at hk
  | z :: l, 0, x, y, hk, ho, hs => by
    simp at hk; subst hk
    simp only [Nat.zero_mul, Nat.zero_add, List.flatMap_cons, List.set_cons_zero]
    rw [setN_append_left _ _ _ _ (by rw [hf]; exact ho), hs]
  | z :: l, k + 1, x, y, hk, ho, hs => by
    have ih := setN_flatMap hf l k x y (by simpa using hk) ho hs
    simp only [List.flatMap_cons, List.set_cons_succ]
    rw [show (k + 1) * sz + off = (f z).length + (k * sz + off) from by rw [hf, Nat.add_mul]; omega, setN_append_right, ih]

/-! append -/
theorem append_drawn {w w' : World} {c c2 n m : Nat} {A : Option Addr} {a : Addr} {t ty e : TypeId} {inf : TypeInfo} {z v' : Value} {cs news : List Value} (ht : P.underlying t = some (.slice e)) (hi : P.info? e = some inf) (hz : inf.zero = some z)
    (hown : w.ownsRow 0 e inf.size (.slice A n c) n cs) (hl : news.length = m * inf.size) (hnews : ∀ j u, news[j]? = some u → w.cell? (a.add j) = some u) (h1 : ∀ u ∈ news, u.oneCell' = true) (h63 : n + m ≤ maxLen) (hbytes : (n + m) * inf.bytes ≤ 140737488355328)
    (hr : (Builtin.append_ #[t, t] ty #[.slice A n c, .slice (some a) m c2]).run P w = .ok v' w') : w.drawn ≤ w'.drawn := by
  have hsmall : n + m ≤ 9223372036854775807 := by simp only [maxLen] at h63; omega
  rcases hown.2 with ⟨h0, rfl⟩ | ⟨g, cap, cur, h0, hbg, hg, hnc, hcm, hcs, htake⟩
  · cases h0
    by_cases hm : m = 0
    · subst hm
      simp [Builtin.append_, run_underlying ht, sizeOf, typeInfo, hi, Builtin.lenOf, Builtin.firstCells, loadCells, loadCellsFrom] at hr
      rw [← hr.2]
      exact Nat.le_refl _
    · have hr2 := run_append_nil (P := P) w t ty e inf z ht hi hz a m c2 news hl hnews (by omega) (by omega) (by have hb := hbytes; simp only [Nat.zero_add] at hb; omega)
      rw [hr2] at hr
      cases hr
      exact Nat.le_succ _
  · cases h0
    by_cases hroom : n + m ≤ c
    · have hfit : n * inf.size + news.length ≤ cur.size := by rw [hl, hcs, ← Nat.add_mul]; exact Nat.mul_le_mul_right _ hroom
      have hr2 := run_append_room (P := P) w t ty e inf ht hi g n c cur hg a m c2 news hl hnews h1 hroom hfit
      rw [hr2] at hr
      cases hr
      exact Nat.le_refl _
    · have holds : ∀ j u, cs[j]? = some u → w.cell? ((⟨g, 0, none⟩ : Addr).add j) = some u := hown.cells (g := g) rfl
      have hr2 := run_append_grow (P := P) w t ty e inf z ht hi hz ⟨g, 0, none⟩ n c cs hown.1 holds a m c2 news hl hnews (by omega) (by omega) (growslice_fits (by omega) hbytes)
      rw [hr2] at hr
      cases hr
      exact Nat.le_succ _
theorem run_append_row {w : World} {A A2 : Option Addr} {c c2 n m sz : Nat} {t ty e : TypeId} {inf : TypeInfo} {z : Value} {cs news : List Value} (ht : P.underlying t = some (.slice e)) (hi : P.info? e = some inf) (hz : inf.zero = some z)
    (hsize : inf.size = sz) (hzs : z.cells.size = sz) (hsz : 0 < sz) (hrow : RowAt w A c e sz cs) (hn : cs.length = n * sz) (hl : news.length = m * sz)
    (hnews : m = 0 ∨ ∃ a, A2 = some a ∧ ∀ j u, news[j]? = some u → w.cell? (a.add j) = some u) (h1 : ∀ u ∈ news, u.oneCell' = true) (hb : (n + m) * inf.bytes ≤ 140737488355328) (hby : 0 < inf.bytes) :
    ∃ A' c' w', (Builtin.append_ #[t, t] ty #[.slice A n c, .slice A2 m c2]).run P w = .ok (.slice A' (n + m) c') w' ∧ RowAt w' A' c' e sz (cs ++ news) ∧ Keep w w' (fun b => A.map (·.block) = some b) ∧
      (∀ b, A'.map (·.block) = some b → A.map (·.block) = some b ∨ w.heap.size ≤ b) := by
  have own : w.ownsRow 0 e sz (.slice A n c) n cs := by
    refine ⟨hn, ?_⟩
    rcases hrow with ⟨rfl, rfl, rfl⟩ | ⟨b, cur, rfl, h1, h2, h3, h4, h5⟩
    · have : n = 0 := by
        rcases Nat.eq_zero_or_pos n with h | h
        · exact h
        · have := Nat.mul_pos h hsz; simp at hn; omega
      subst this; exact .inl ⟨rfl, rfl⟩
    · exact .inr ⟨b, c, cur, rfl, Nat.zero_le _, h1, Nat.le_of_mul_le_mul_right (hn ▸ h2) hsz, h3, h4, by rw [← hn]; exact h5⟩
  have hnm : n + m ≤ maxLen := by
    have : n + m ≤ (n + m) * inf.bytes := Nat.le_mul_of_pos_right _ hby
    have : (140737488355328 : Nat) ≤ maxLen := by decide
    omega
  have fin : ∀ (a : Addr), (∀ j u, news[j]? = some u → w.cell? (a.add j) = some u) → ∃ A' c' w', (Builtin.append_ #[t, t] ty #[.slice A n c, .slice (some a) m c2]).run P w = .ok (.slice A' (n + m) c') w' ∧ RowAt w' A' c' e sz (cs ++ news) ∧ Keep w w' (fun b => A.map (·.block) = some b) ∧
      (∀ b, A'.map (·.block) = some b → A.map (·.block) = some b ∨ w.heap.size ≤ b) := by
    intro a ha
    obtain ⟨v', w', hr, hown, hg, _, hbk⟩ := run_append_own_at (P := P) (w := w) 0 t ty e inf z sz inf.bytes ht hi hz hsize rfl hzs hsz (.slice A n c) n cs own a m c2 news hl ha h1 hnm hb (Nat.zero_le _)
    have ob : ∀ {A : Option Addr} {n c : Nat}, (Value.slice A n c).ownBlock = A.map (·.block) := by intro A n c; cases A <;> rfl
    have hlen : (cs ++ news).length = (n + m) * sz := by simp [hn, hl, Nat.add_mul]
    have hv : ∃ A' c', v' = .slice A' (n + m) c' ∧ RowAt w' A' c' e sz (cs ++ news) := by
      rcases hown.2 with ⟨h1, h2⟩ | ⟨g, cap, cur, h1, h2, h3, h4, h5, h6, h7⟩
      · refine ⟨none, 0, by rw [h1]; simp; omega, .inl ⟨rfl, rfl, ?_⟩⟩
        rw [h2, Nat.zero_mul] at hlen; exact List.eq_nil_of_length_eq_zero hlen
      · exact ⟨some ⟨g, 0, none⟩, cap, h1, .inr ⟨g, cur, rfl, h3, by rw [hlen]; exact Nat.mul_le_mul_right _ h4, h5, h6, by rw [hlen]; exact h7⟩⟩
    obtain ⟨A', c', rfl, hrow'⟩ := hv
    rw [ob, ob] at hbk
    refine ⟨A', c', w', hr, hrow', ⟨hg.os, ⟨hg.tape, append_drawn (A := A) (a := a) ht hi hz (hsize ▸ own) (hsize ▸ hl) ha h1 hnm hb hr⟩, hg.output, hg.size, fun k hk hx => hg.block k hk fun e => hx ?_⟩, fun b hb => ?_⟩
    · rw [ob] at e; exact e.symm
    · rcases hbk with h | h
      · rw [h] at hb; exact .inl hb
      · rw [h] at hb; cases hb; exact .inr (Nat.le_refl _)
  cases A2 with
  | some a =>
    rcases hnews with h0 | ⟨a', ha, hh⟩
    · subst h0
      have : news = [] := by simp at hl; exact hl
      subst this
      exact fin a (fun j u h => by simp at h)
    · cases ha; exact fin a hh
  | none =>
    rcases hnews with h0 | ⟨a', ha, hh⟩
    · subst h0
      have : news = [] := by simp at hl; exact hl
      subst this
      have hle : n ≤ c := by
        rcases hrow with ⟨rfl, rfl, rfl⟩ | ⟨b, cur, rfl, h1, h2, h3, h4, h5⟩
        · have : n = 0 := by
            rcases Nat.eq_zero_or_pos n with h | h
            · exact h
            · have := Nat.mul_pos h hsz; simp at hn; omega
          omega
        · exact Nat.le_of_mul_le_mul_right (hn ▸ h2) hsz
      refine ⟨A, c, w, ?_, by simpa using hrow, Keep.refl w _, fun b hb => .inl hb⟩
      have hsz2 : ∀ w, (sizeOf e).run P w = .ok sz w := by
        intro w; simp [sizeOf, typeInfo, hi, hsize]
      have hu : ∀ w, (underlying t).run P w = .ok (.slice e) w := by intro w; simp [underlying, ht]
      cases A with
      | none => simp [Builtin.append_, hu, hsz2, Builtin.lenOf, Builtin.firstCells, hle]
      | some a => simp [Builtin.append_, hu, hsz2, Builtin.lenOf, Builtin.firstCells, hle, storeCells]
    · cases ha
end
end Go.KL
