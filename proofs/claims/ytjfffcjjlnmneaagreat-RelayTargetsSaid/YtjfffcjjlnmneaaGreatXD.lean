/- The machine's operations that look at no memory: each does what the model's operation does. -/
import Derived.Test.YtjfffcjjlnmneaaGreatXC
namespace Go.KX
open Go.RowKit Go.KL

/-! ### What is asked of the program's types -/
def aggD : TypeDesc → Bool
  | .struct _ | .array _ _ => true
  | _ => false
def undT (P : Program) (t : TypeId) (f : TypeDesc → Bool) : Bool := match P.underlying t with
  | some d => f d
  | none => false
def szT (P : Program) (t n : Nat) : Bool := match P.info? t with
  | some i => Nat.beq i.size n
  | none => false
def byT (P : Program) (t n : Nat) : Bool := match P.info? t with
  | some i => Nat.beq i.bytes n
  | none => false
noncomputable def zT (P : Program) (t : TypeId) (z : List AV) : Bool := match P.info? t with
  | some i => match i.zero with
    | some v => okcL z v.cells.toList
    | none => false
  | none => false
section
variable {C : Chk} {P : Program} {μ μ' : Mu} {w w' : World} {h h' : AH} {σ : Env} {σA : Tr AV} {t e : TypeId} {o : Oper}
theorem undT_ok {f : TypeDesc → Bool} (hc : undT P t f = true) : ∃ d, P.underlying t = some d ∧ f d = true := by
  unfold undT at hc
  split at hc
  · exact ⟨_, by assumption, hc⟩
  · cases hc
theorem run_und {d : TypeDesc} (hu : P.underlying t = some d) (w : World) : (underlying t).run P w = .ok d w := run_underlying hu w
theorem szT_ok {n : Nat} (hc : szT P t n = true) (w : World) : (sizeOf t).run P w = .ok n w := by
  unfold szT at hc
  split at hc
  · rename_i i hi
    rw [← Nat.eq_of_beq_eq_true hc]
    simp [sizeOf, typeInfo, hi]
  · cases hc
theorem szT_info {n : Nat} (hc : szT P t n = true) : ∃ i, P.info? t = some i ∧ i.size = n := by
  unfold szT at hc
  split at hc
  · rename_i i hi; exact ⟨i, hi, Nat.eq_of_beq_eq_true hc⟩
  · cases hc
theorem byT_info {n : Nat} (hc : byT P t n = true) : ∃ i, P.info? t = some i ∧ i.bytes = n := by
  unfold byT at hc
  split at hc
  · rename_i i hi; exact ⟨i, hi, Nat.eq_of_beq_eq_true hc⟩
  · cases hc
theorem zT_info {z : List AV} (hc : zT P t z = true) : ∃ i v, P.info? t = some i ∧ i.zero = some v ∧ ∀ μ, RvL μ z v.cells.toList := by
  unfold zT at hc
  split at hc
  · rename_i i hi
    split at hc
    · rename_i v hv; exact ⟨i, v, hi, hv, fun μ => okcL_ok μ hc⟩
    · cases hc
  · cases hc
theorem run_zero {i : TypeInfo} {z : Value} (hi : P.info? t = some i) (hz : i.zero = some z) (w : World) : (zeroValue t).run P w = .ok z w := by
  simp [zeroValue, typeInfo, hi, hz]
theorem run_agg {d : TypeDesc} (hu : P.underlying t = some d) (w : World) : (isAgg t).run P w = .ok (aggD d) w := by
  simp only [isAgg, Sem.run_bind, run_und hu, Result.andThen_ok]
  cases d <;> rfl
def aggT (P : Program) (t : TypeId) (b : Bool) : Bool := undT P t fun d => aggD d == b
theorem aggT_ok {b : Bool} (hc : aggT P t b = true) (w : World) : (isAgg t).run P w = .ok b w := by
  obtain ⟨d, h1, h2⟩ := undT_ok hc
  rw [run_agg h1, eq_of_beq h2]

/-- A register operation: it looks at no memory. -/
def OkP (P : Program) (op : Op) (f : Tr AV → AH → Option (AV × AH)) : Prop :=
  ∀ σA h v h', f σA h = some (v, h') → h' = h ∧ ∀ μ σ, EnvR μ σA σ → ∃ cv, Rv μ v cv ∧ ∀ (o : Oper) (w : World), o.op = op → Runs P σ w o cv w
noncomputable def c_mv (x : AOd) : Op → Bool
  | .move y | .assign y => chkD x y
  | _ => false
theorem p_mv {x : AOd} {op : Op} (hc : c_mv x op = true) : OkP P op (o_mv x) := by
  intro σA h v h' hr
  cases hr
  refine ⟨rfl, fun μ σ hE => ?_⟩
  unfold c_mv at hc
  split at hc
  · exact ⟨_, chkD_ok hc hE, fun o w ho => Runs.mv ho rfl⟩
  · exact ⟨_, chkD_ok hc hE, fun o w ho => Runs.as ho rfl⟩
  · cases hc
noncomputable def c_pick (c x y : AOd) : Op → Bool
  | .pick c' x' y' => chkD c c' && (chkD x x' && chkD y y')
  | _ => false
theorem p_pick {c x y : AOd} {op : Op} (hc : c_pick c x y op = true) : OkP P op (o_pick c x y) := by
  intro σA h v h' hr
  unfold c_pick at hc
  split at hc
  · rename_i c' x' y'
    simp only [Bool.and_eq_true] at hc
    unfold o_pick at hr
    split at hr
    · rename_i hb; cases hr
      exact ⟨rfl, fun μ σ hE => ⟨_, chkD_ok hc.2.1 hE, fun o w ho => Runs.pickT ho (by have := chkD_ok hc.1 hE; rw [hb] at this; exact this) rfl⟩⟩
    · rename_i hb; cases hr
      exact ⟨rfl, fun μ σ hE => ⟨_, chkD_ok hc.2.2 hE, fun o w ho => Runs.pickF ho (by have := chkD_ok hc.1 hE; rw [hb] at this; exact this) rfl⟩⟩
    · cases hr
  · cases hc
noncomputable def c_nilc (x : AOd) : Op → Bool
  | .nilCheck y => chkD x y
  | _ => false
theorem p_nilc {x : AOd} {op : Op} (hc : c_nilc x op = true) : OkP P op (o_nilc x) := by
  intro σA h v h' hr
  unfold c_nilc at hc
  split at hc
  · unfold o_nilc at hr
    split at hr
    · rename_i hb; cases hr
      refine ⟨rfl, fun μ σ hE => ?_⟩
      have := chkD_ok hc hE; rw [hb] at this
      refine ⟨_, this, fun o w ho => ?_⟩
      obtain ⟨c, h1, h2⟩ := this
      rw [h2]; exact Runs.nilp ho h2
    · rename_i hb; cases hr
      refine ⟨rfl, fun μ σ hE => ?_⟩
      have := chkD_ok hc hE; rw [hb] at this
      refine ⟨_, this, fun o w ho => ?_⟩
      obtain ⟨fv, cv, _, _, h2⟩ := this
      rw [h2]; exact Runs.nilf ho h2
    · rename_i hb; cases hr
      refine ⟨rfl, fun μ σ hE => ?_⟩
      have := chkD_ok hc hE; rw [hb] at this
      refine ⟨_, this, fun o w ho => ?_⟩
      obtain ⟨c, h1, h2⟩ := this
      rw [h2]; exact Runs.nily ho h2
    · cases hr
  · cases hc

/-! numbers -/
theorem inK_wrap {k : IntKind} {n : Int} (hk : inK k n = true) : k.wrap n = n := by
  unfold inK at hk
  split at hk <;> (try simp only [Nat.blt_eq] at hk) <;> (try simp only [IntKind.wrap_i64, IntKind.wrap_u8, IntKind.wrap_u32, Go.IntKind.wrap_u64, Int.negSucc_eq, Int.ofNat_eq_natCast]) <;> first | omega | cases hk
theorem okV_some {x : Option AV} {v : AV} (hr : okV h x = some (v, h')) : x = some v ∧ h' = h := by
  cases x <;> cases hr; exact ⟨rfl, rfl⟩
theorem ifO_some {α : Type} {b : Bool} {x : Option α} {v : α} (hr : ifO b x = some v) : b = true ∧ x = some v := by
  cases b
  · cases hr
  · exact ⟨rfl, hr⟩
theorem arith_some {f : Int → Int → Int} {x y v : AV} (hr : arith f x y = some v) : ∃ k a b, x = .int k a ∧ y = .int k b ∧ v = .int k (f a b) ∧ k.wrap (f a b) = f a b := by
  unfold arith at hr
  split at hr
  · rename_i k a k' b
    split at hr
    · rename_i hk
      split at hr
      · rename_i hi; cases hr; exact ⟨k, a, b, rfl, by rw [keq_eq hk], rfl, inK_wrap hi⟩
      · cases hr
    · cases hr
  · cases hr
theorem div_some {f : Int → Int → Int} {x y v : AV} (hr : div f x y = some v) : ∃ k a b, x = .int k a ∧ y = .int k b ∧ v = .int k (f a b) ∧ k.wrap (f a b) = f a b ∧ b ≠ 0 := by
  unfold div at hr
  split at hr
  · rename_i k a k' b
    split at hr
    · rename_i hk
      split at hr
      · cases hr
      · rename_i hz
        split at hr
        · rename_i hi; cases hr
          exact ⟨k, a, b, rfl, by rw [keq_eq hk], rfl, inK_wrap hi, fun e => by rw [zeq_eq.2 e] at hz; cases hz⟩
        · cases hr
    · cases hr
  · cases hr
theorem cmpA_some {f : Int → Int → Bool} {x y v : AV} (hr : cmpA f x y = some v) : ∃ k a b, x = .int k a ∧ y = .int k b ∧ v = .bool (f a b) := by
  unfold cmpA at hr
  split at hr
  · rename_i k a k' b
    split at hr
    · rename_i hk; cases hr; exact ⟨k, a, b, rfl, by rw [keq_eq hk], rfl⟩
    · cases hr
  · cases hr
/-- Two operands of a binary operation. -/
noncomputable def c_bin (b : BinOp) (x y : AOd) : Op → Bool
  | .binOp b' _ x' y' _ => (b' == b) && (chkD x x' && chkD y y')
  | _ => false
theorem c_bin_ok {b : BinOp} {x y : AOd} {op : Op} (hc : c_bin b x y op = true) : ∃ t x' y' t', op = .binOp b t x' y' t' ∧ chkD x x' = true ∧ chkD y y' = true := by
  unfold c_bin at hc
  split at hc
  · rename_i b' t x' y' t'
    simp only [Bool.and_eq_true, beq_iff_eq] at hc
    obtain ⟨rfl, h1, h2⟩ := hc
    exact ⟨t, x', y', t', rfl, h1, h2⟩
  · cases hc
theorem p_arith {b : BinOp} {f : Int → Int → Int} {x y : AOd} {op : Op} (hc : c_bin b x y op = true)
    (hrun : ∀ (o : Oper) (σ : Env) (w : World) t x' y' t' k m n, o.op = .binOp b t x' y' t' → ev σ x' = .int k m → ev σ y' = .int k n → Runs P σ w o (.int k (k.wrap (f m n))) w) :
    OkP P op (fun σ h => okV h (arith f (evA σ x) (evA σ y))) := by
  intro σA h v h' hr
  obtain ⟨t, x', y', t', rfl, h1, h2⟩ := c_bin_ok hc
  obtain ⟨hr2, rfl⟩ := okV_some hr
  obtain ⟨k, m, n, e1, e2, rfl, e3⟩ := arith_some hr2
  refine ⟨rfl, fun μ σ hE => ⟨_, rfl, fun o w ho => ?_⟩⟩
  have g1 := chkD_ok h1 hE; rw [e1] at g1
  have g2 := chkD_ok h2 hE; rw [e2] at g2
  have := hrun o σ w t x' y' t' k m n ho g1 g2
  rwa [e3] at this
theorem p_add {x y : AOd} {op : Op} (hc : c_bin .add x y op = true) : OkP P op (o_add x y) :=
  p_arith hc fun o σ w t x' y' t' k m n ho h1 h2 => ⟨by rw [ho]; rfl, by simp [execOp, ho, h1, h2, binOp, eqGuard, Op.intArith]⟩
theorem p_sub {x y : AOd} {op : Op} (hc : c_bin .sub x y op = true) : OkP P op (o_sub x y) :=
  p_arith hc fun o σ w t x' y' t' k m n ho h1 h2 => ⟨by rw [ho]; rfl, by simp [execOp, ho, h1, h2, binOp, eqGuard, Op.intArith]; rfl⟩
theorem p_mul {x y : AOd} {op : Op} (hc : c_bin .mul x y op = true) : OkP P op (o_mul x y) :=
  p_arith hc fun o σ w t x' y' t' k m n ho h1 h2 => ⟨by rw [ho]; rfl, by simp [execOp, ho, h1, h2, binOp, eqGuard, Op.intArith]⟩
theorem p_div {b : BinOp} {f : Int → Int → Int} {x y : AOd} {op : Op} (hc : c_bin b x y op = true)
    (hrun : ∀ (o : Oper) (σ : Env) (w : World) t x' y' t' k m n, o.op = .binOp b t x' y' t' → ev σ x' = .int k m → ev σ y' = .int k n → n ≠ 0 → k.wrap (f m n) = f m n → Runs P σ w o (.int k (f m n)) w) :
    OkP P op (fun σ h => okV h (div f (evA σ x) (evA σ y))) := by
  intro σA h v h' hr
  obtain ⟨t, x', y', t', rfl, h1, h2⟩ := c_bin_ok hc
  obtain ⟨hr2, rfl⟩ := okV_some hr
  obtain ⟨k, m, n, e1, e2, rfl, e3, e4⟩ := div_some hr2
  refine ⟨rfl, fun μ σ hE => ⟨_, rfl, fun o w ho => ?_⟩⟩
  have g1 := chkD_ok h1 hE; rw [e1] at g1
  have g2 := chkD_ok h2 hE; rw [e2] at g2
  exact hrun o σ w t x' y' t' k m n ho g1 g2 e4 e3
theorem p_quo {x y : AOd} {op : Op} (hc : c_bin .quo x y op = true) : OkP P op (o_quo x y) :=
  p_div hc fun o σ w t x' y' t' k m n ho h1 h2 h3 h4 => ⟨by rw [ho]; rfl, by simp [execOp, ho, h1, h2, binOp, eqGuard, Op.intDiv, h3, h4]⟩
theorem p_rem {x y : AOd} {op : Op} (hc : c_bin .rem x y op = true) : OkP P op (o_rem x y) :=
  p_div hc fun o σ w t x' y' t' k m n ho h1 h2 h3 h4 => ⟨by rw [ho]; rfl, by simp [execOp, ho, h1, h2, binOp, eqGuard, Op.intDiv, h3]⟩
theorem p_cmp {b : BinOp} {f : Int → Int → Bool} {x y : AOd} {op : Op} (hc : c_bin b x y op = true)
    (hrun : ∀ (o : Oper) (σ : Env) (w : World) t x' y' t' k m n, o.op = .binOp b t x' y' t' → ev σ x' = .int k m → ev σ y' = .int k n → Runs P σ w o (.bool (f m n)) w) :
    OkP P op (fun σ h => okV h (cmpA f (evA σ x) (evA σ y))) := by
  intro σA h v h' hr
  obtain ⟨t, x', y', t', rfl, h1, h2⟩ := c_bin_ok hc
  obtain ⟨hr2, rfl⟩ := okV_some hr
  obtain ⟨k, m, n, e1, e2, rfl⟩ := cmpA_some hr2
  refine ⟨rfl, fun μ σ hE => ⟨_, rfl, fun o w ho => ?_⟩⟩
  have g1 := chkD_ok h1 hE; rw [e1] at g1
  have g2 := chkD_ok h2 hE; rw [e2] at g2
  exact hrun o σ w t x' y' t' k m n ho g1 g2
theorem p_lss {x y : AOd} {op : Op} (hc : c_bin .lss x y op = true) : OkP P op (o_lss x y) :=
  p_cmp hc fun o σ w t x' y' t' k m n ho h1 h2 => (Runs.lss ho h1 h2).to (by rw [zlt_dec])
theorem p_leq {x y : AOd} {op : Op} (hc : c_bin .leq x y op = true) : OkP P op (o_leq x y) :=
  p_cmp hc fun o σ w t x' y' t' k m n ho h1 h2 => (Runs.leq ho h1 h2).to (by rw [zle_dec])
theorem p_gtr {x y : AOd} {op : Op} (hc : c_bin .gtr x y op = true) : OkP P op (o_gtr x y) :=
  p_cmp hc fun o σ w t x' y' t' k m n ho h1 h2 => (Runs.gtr ho h1 h2).to (by rw [zlt_dec])
theorem p_geq {x y : AOd} {op : Op} (hc : c_bin .geq x y op = true) : OkP P op (o_geq x y) :=
  p_cmp hc fun o σ w t x' y' t' k m n ho h1 h2 => (Runs.geq ho h1 h2).to (by rw [zle_dec])
theorem p_eql {x y : AOd} {op : Op} (hc : c_bin .eql x y op = true) : OkP P op (o_eql x y) :=
  p_cmp hc fun o σ w t x' y' t' k m n ho h1 h2 => (Runs.eql ho h1 h2).to (by rw [zeq_dec])
theorem p_neq {x y : AOd} {op : Op} (hc : c_bin .neq x y op = true) : OkP P op (o_neq x y) :=
  p_cmp hc fun o σ w t x' y' t' k m n ho h1 h2 => (Runs.neq ho h1 h2).to (by rw [zeq_dec]; simp)
noncomputable def c_neg (x : AOd) : Op → Bool
  | .unOp .neg _ y => chkD x y
  | _ => false
theorem p_neg {x : AOd} {op : Op} (hc : c_neg x op = true) : OkP P op (o_neg x) := by
  intro σA h v h' hr
  unfold c_neg at hc
  split at hc
  · obtain ⟨hr2, rfl⟩ := okV_some hr
    obtain ⟨k, m, n, e1, e2, rfl, e3⟩ := arith_some hr2
    rw [e2] at e1
    simp only at e1
    cases e1
    refine ⟨rfl, fun μ σ hE => ⟨_, rfl, fun o w ho => ?_⟩⟩
    have g2 := chkD_ok hc hE; rw [e2] at g2
    refine ⟨by rw [ho]; rfl, ?_⟩
    have : ev σ _ = .int k n := g2
    simp only [execOp, ho, this, Op.unary, Op.intArith, Sem.run_bind, Sem.run_pure, Result.andThen_ok]
    rw [show (0 : Int) - n = Int.sub 0 n from rfl, e3]
  · cases hc
noncomputable def c_not (x : AOd) : Op → Bool
  | .unOp .not _ y => chkD x y
  | _ => false
theorem p_not {x : AOd} {op : Op} (hc : c_not x op = true) : OkP P op (o_not x) := by
  intro σA h v h' hr
  unfold c_not at hc
  split at hc
  · unfold o_not at hr
    split at hr
    · rename_i hb; cases hr
      refine ⟨rfl, fun μ σ hE => ⟨_, rfl, fun o w ho => ?_⟩⟩
      have g := chkD_ok hc hE; rw [hb] at g
      exact Runs.not ho g
    · cases hr
  · cases hc
def isInt : TypeDesc → Option IntKind
  | .int k => some k
  | _ => none
noncomputable def c_cvt (k : IntKind) (x : AOd) : Op → Bool
  | .convert s t y => undT P s (fun d => (isInt d).isSome) && (undT P t (fun d => match isInt d with | some k' => keq k k' | none => false) && chkD x y)
  | _ => false
theorem p_cvt {k : IntKind} {x : AOd} {op : Op} (hc : c_cvt (P := P) k x op = true) : OkP P op (o_cvt k x) := by
  intro σA h v h' hr
  unfold c_cvt at hc
  split at hc
  · simp only [Bool.and_eq_true] at hc
    obtain ⟨c1, c2, c3⟩ := hc
    unfold o_cvt at hr
    split at hr
    · rename_i k0 n hb
      obtain ⟨hi, hr⟩ := ifO_some hr
      cases hr
      refine ⟨rfl, fun μ σ hE => ⟨_, rfl, fun o w ho => ?_⟩⟩
      have g := chkD_ok c3 hE; rw [hb] at g
      obtain ⟨d, d1, d2⟩ := undT_ok c1
      obtain ⟨e, e1, e2⟩ := undT_ok c2
      cases d <;> first | (cases d2; done) | skip
      cases e <;> first | (cases e2; done) | skip
      have := keq_eq e2
      subst this
      have g' : ev σ _ = .int k0 n := g
      exact ⟨by rw [ho]; rfl, by simp [execOp, ho, g', convert, run_und d1, run_und e1, Conv.intToInt, inK_wrap hi]⟩
    · cases hr
  · cases hc
noncomputable def c_mkf (f : Pos) (fi ca : List AOd) : Op → Bool
  | .makeFunc (.func g) fi' ca' => Nat.beq f.nat (g + 1) && (chkDs fi fi'.toList && chkDs ca ca'.toList)
  | _ => false
theorem p_mkf {f : Pos} {fi ca : List AOd} {op : Op} (hc : c_mkf f fi ca op = true) : OkP P op (o_mkf f fi ca) := by
  intro σA h v h' hr
  cases hr
  unfold c_mkf at hc
  split at hc
  · simp only [Bool.and_eq_true] at hc
    obtain ⟨c1, c2, c3⟩ := hc
    refine ⟨rfl, fun μ σ hE => ⟨_, ⟨_, _, chkDs_ok c2 hE, chkDs_ok c3 hE, rfl⟩, fun o w ho => ?_⟩⟩
    have e := Nat.eq_of_beq_eq_true c1
    refine ⟨by rw [ho]; rfl, ?_⟩
    simp [execOp, ho, Instr.makeFunc, e, ← Array.toList_map]
  · cases hc
noncomputable def c_ext (i : Nat) (x : AOd) : Op → Bool
  | .extract y j => Nat.beq i j && chkD x y
  | _ => false
theorem p_ext {i : Nat} {x : AOd} {op : Op} (hc : c_ext i x op = true) : OkP P op (o_ext i x) := by
  intro σA h v h' hr
  unfold c_ext at hc
  split at hc
  · simp only [Bool.and_eq_true] at hc
    have e := Nat.eq_of_beq_eq_true hc.1
    subst e
    unfold o_ext at hr
    split at hr
    · rename_i l hb
      obtain ⟨hr2, rfl⟩ := okV_some hr
      refine ⟨rfl, fun μ σ hE => ?_⟩
      have g := chkD_ok hc.2 hE; rw [hb] at g
      obtain ⟨vs, g1, g2⟩ := g
      rw [nth_eq] at hr2
      obtain ⟨cv, g3, g4⟩ := rvL_get g1 hr2
      exact ⟨cv, g4, fun o w ho => Runs.ext ho g2 (by simpa using g3)⟩
    · cases hr
  · cases hc
end
end Go.KX
