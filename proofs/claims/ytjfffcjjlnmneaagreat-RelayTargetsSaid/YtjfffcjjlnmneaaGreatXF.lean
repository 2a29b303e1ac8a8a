/- More register operations: ==, fields, elements, slices of slices, structs and arrays that are built, len, cap, min, max. -/
import Derived.Test.YtjfffcjjlnmneaaGreatXD
namespace Go.KX
open Go.RowKit Go.KL
section
variable {C : Chk} {P : Program} {μ μ' : Mu} {w w' : World} {h h' : AH} {σ : Env} {σA : Tr AV} {t e : TypeId} {o : Oper}
noncomputable def c_eqb (P : Program) (ne : Bool) (x y : AOd) : Op → Bool
  | .binOp b t x' y' _ => (match ne with | true => b == .neq | false => b == .eql) && (undT P t (fun d => match d with | .bool => true | _ => false) && (chkD x x' && chkD y y'))
  | _ => false
theorem ne_xor (ne b : Bool) : (ne != b) = (match ne with | true => !b | false => b) := by cases ne <;> cases b <;> rfl
theorem p_eqb {ne : Bool} {x y : AOd} {op : Op} (hc : c_eqb P ne x y op = true) : OkP P op (o_eqb ne x y) := by
  intro σA h v h' hr
  unfold c_eqb at hc
  split at hc
  · simp only [Bool.and_eq_true] at hc
    obtain ⟨c0, c1, c2, c3⟩ := hc
    unfold o_eqb at hr
    split at hr
    · rename_i a b e1 e2
      cases hr
      refine ⟨rfl, fun μ σ hE => ⟨_, rfl, fun o w ho => ?_⟩⟩
      have g1 := chkD_ok c2 hE; rw [e1] at g1
      have g2 := chkD_ok c3 hE; rw [e2] at g2
      obtain ⟨d, d1, d2⟩ := undT_ok c1
      cases d <;> first | (cases d2; done) | skip
      cases ne
      · have := eq_of_beq c0; subst this
        exact (Runs.eqB ho g1 g2 (run_und d1)).to (by rw [ne_xor])
      · have := eq_of_beq c0; subst this
        exact (Runs.neB ho g1 g2 (run_und d1)).to (by rw [ne_xor])
    · cases hr
  · cases hc
def nilD (k : Nat) (d : TypeDesc) : Bool := match k, d with
  | 0, .pointer _ => true
  | 1, .slice _ => true
  | 2, .map _ _ => true
  | 3, .func _ _ _ => true
  | _, _ => false
theorem nilEq_run {k : Nat} {d : TypeDesc} {a b : AV} {r : Bool} {x y : Value} (hu : P.underlying t = some d) (hd : nilD k d = true) (hr : nilEq k a b = some r) (hx : Rv μ a x) (hy : Rv μ b y) (w : World) : (Op.equal t x y).run P w = .ok r w := by
  unfold Op.equal Op.maxDepth
  rw [show (10000 : Nat) = 9999 + 1 from rfl, Op.equalIn]
  unfold nilEq at hr
  split at hr <;> cases hr <;> simp only [Rv] at hx hy <;> (cases d <;> first | (cases hd; done) | skip) <;>
    (try obtain ⟨_, _, _, _, _, rfl⟩ := hx) <;> (try obtain ⟨_, _, _, _, rfl⟩ := hx) <;> (try obtain ⟨_, _, _, rfl⟩ := hx) <;> (try obtain ⟨_, _, rfl⟩ := hx) <;> (try subst hx) <;>
    (try obtain ⟨_, _, _, _, _, rfl⟩ := hy) <;> (try obtain ⟨_, _, _, _, rfl⟩ := hy) <;> (try obtain ⟨_, _, _, rfl⟩ := hy) <;> (try obtain ⟨_, _, rfl⟩ := hy) <;> (try subst hy) <;>
    simp only [Sem.run_bind, run_und hu, Result.andThen_ok, Sem.run_pure] <;> rfl
theorem not_agg_nil {k : Nat} {a b : AV} {r : Bool} {x y : Value} (hr : nilEq k a b = some r) (hx : Rv μ a x) (hy : Rv μ b y) (op : BinOp) (p q : Operand) (w : World) : (eqGuard op t p q x y).run P w = .ok () w := by
  unfold nilEq at hr
  split at hr <;> cases hr <;> simp only [Rv] at hx hy <;>
    (try obtain ⟨_, _, _, _, _, rfl⟩ := hx) <;> (try obtain ⟨_, _, _, _, rfl⟩ := hx) <;> (try obtain ⟨_, _, _, rfl⟩ := hx) <;> (try obtain ⟨_, _, rfl⟩ := hx) <;> (try subst hx) <;>
    (try obtain ⟨_, _, _, _, _, rfl⟩ := hy) <;> (try obtain ⟨_, _, _, _, rfl⟩ := hy) <;> (try obtain ⟨_, _, _, rfl⟩ := hy) <;> (try obtain ⟨_, _, rfl⟩ := hy) <;> (try subst hy) <;>
    simp only [eqGuard] <;> (cases op <;> rfl)
noncomputable def c_eqn (P : Program) (k : Nat) (ne : Bool) (x y : AOd) : Op → Bool
  | .binOp b t x' y' _ => (match ne with | true => b == .neq | false => b == .eql) && (undT P t (nilD k) && (chkD x x' && chkD y y'))
  | _ => false
theorem p_eqn {k : Nat} {ne : Bool} {x y : AOd} {op : Op} (hc : c_eqn P k ne x y op = true) : OkP P op (o_eqn k ne x y) := by
  intro σA h v h' hr
  unfold c_eqn at hc
  split at hc
  · rename_i b t x' y' t'
    simp only [Bool.and_eq_true] at hc
    obtain ⟨c0, c1, c2, c3⟩ := hc
    unfold o_eqn at hr
    split at hr
    · rename_i r e1
      cases hr
      refine ⟨rfl, fun μ σ hE => ⟨_, rfl, fun o w ho => ?_⟩⟩
      have g1 := chkD_ok c2 hE
      have g2 := chkD_ok c3 hE
      obtain ⟨d, d1, d2⟩ := undT_ok c1
      have g3 := nilEq_run d1 d2 e1 g1 g2
      have g4 := fun op => not_agg_nil (P := P) (t := t) e1 g1 g2 op x' y'
      refine ⟨by rw [ho]; rfl, ?_⟩
      generalize hX : ev σ x' = X at g1 g3 g4
      generalize hY : ev σ y' = Y at g2 g3 g4
      have nint : (∀ k n, X ≠ .int k n) ∧ (∀ k n, X ≠ .float k n) ∧ (∀ k n m, X ≠ .complex k n m) ∧ (∀ s, X ≠ .string s) := by
        unfold nilEq at e1
        split at e1 <;> cases e1 <;> rename_i e2 e3 <;> rw [e2] at g1 <;> simp only [Rv] at g1 <;>
          (try obtain ⟨_, _, _, _, _, rfl⟩ := g1) <;> (try obtain ⟨_, _, _, _, rfl⟩ := g1) <;> (try obtain ⟨_, _, _, rfl⟩ := g1) <;> (try obtain ⟨_, _, rfl⟩ := g1) <;> (try subst g1) <;>
          exact ⟨by simp, by simp, by simp, by simp⟩
      obtain ⟨n1, n2, n3, n4⟩ := nint
      cases ne
      · have := eq_of_beq c0; subst this
        simp only [execOp, ho, Sem.run_bind, hX, hY, g4 .eql w, Result.andThen_ok]
        have : (binOp .eql t X Y).run P w = .ok (.bool r) w := by
          cases X <;> first | exact absurd rfl (n1 _ _) | exact absurd rfl (n2 _ _) | exact absurd rfl (n3 _ _ _) | exact absurd rfl (n4 _) | (simp only [binOp, Sem.run_bind, g3 w, Result.andThen_ok]; rfl)
        rw [this]
        simp [ne_xor]
      · have := eq_of_beq c0; subst this
        simp only [execOp, ho, Sem.run_bind, hX, hY, g4 .neq w, Result.andThen_ok]
        have : (binOp .neq t X Y).run P w = .ok (.bool (!r)) w := by
          cases X <;> first | exact absurd rfl (n1 _ _) | exact absurd rfl (n2 _ _) | exact absurd rfl (n3 _ _ _) | exact absurd rfl (n4 _) | (simp only [binOp, Sem.run_bind, g3 w, Result.andThen_ok]; rfl)
        rw [this]
        simp [ne_xor]
    · cases hr
  · cases hc
/-! structs held against each other -/
mutual
def Sh.depth : Sh → Nat
  | .int => 1
  | .bool => 1
  | .str fs => depths fs + 1
def depths : List (Nat × Nat × Sh) → Nat
  | [] => 0
  | (_, _, s) :: fs => Nat.max s.depth (depths fs)
end
mutual
noncomputable def chkSh (P : Program) : Sh → TypeId → Bool
  | .int, t => undT P t fun d => (isInt d).isSome
  | .bool, t => undT P t fun d => match d with | .bool => true | _ => false
  | .str fs, t => (!P.stoodInHeld t) && undT P t fun d => match d with | .struct gs => chkFs P fs gs.toList | _ => false
noncomputable def chkFs (P : Program) : List (Nat × Nat × Sh) → List Field → Bool
  | [], [] => true
  | (off, sz, s) :: fs, g :: gs => (g.name != "_") && (Nat.beq g.offset off && (szT P g.type sz && (chkSh P s g.type && chkFs P fs gs)))
  | _, _ => false
end
theorem chkSh_agg {s : Sh} (hc : chkSh P s t = true) (w : World) : (isAgg t).run P w = .ok (match s with | .str _ => true | _ => false) w := by
  cases s with
  | int =>
    obtain ⟨d, h1, h2⟩ := undT_ok hc
    rw [run_agg h1]; cases d <;> first | rfl | cases h2
  | bool =>
    obtain ⟨d, h1, h2⟩ := undT_ok hc
    rw [run_agg h1]; cases d <;> first | rfl | cases h2
  | str fs =>
    simp only [chkSh, Bool.and_eq_true] at hc
    obtain ⟨d, h1, h2⟩ := undT_ok hc.2
    rw [run_agg h1]; cases d <;> first | rfl | cases h2
theorem partS_run {s : Sh} {l : List AV} {vs : List Value} {off sz : Nat} {a : AV} (hc : chkSh P s t = true) (hz : szT P t sz = true) (hp : partS s l off sz = some a) (hl : RvL μ l vs) : ∃ v, Rv μ a v ∧ ∀ w, (part t vs.toArray off).run P w = .ok v w := by
  have hag := chkSh_agg hc
  unfold partS at hp
  split at hp
  · split at hp
    · rename_i r hs
      cases hp
      obtain ⟨h1, h2⟩ := rvL_sub hs hl
      exact ⟨_, ⟨_, h1, rfl⟩, fun w => run_part hag (szT_ok hz) rfl⟩
    · cases hp
  · rename_i hne
    rw [nth_eq] at hp
    obtain ⟨v, h1, h2⟩ := rvL_get hl hp
    refine ⟨v, h2, fun w => run_part1 (fun w => ?_) h1⟩
    rw [hag w]
    cases s <;> first | rfl | exact absurd rfl (hne _)
mutual
theorem eqSh_run : ∀ (s : Sh) (t : TypeId) (d : Nat) (a b : AV) (x y : Value) (r : Bool), chkSh P s t = true → s.depth ≤ d → eqSh s a b = some r → Rv μ a x → Rv μ b y → ∀ w, (Op.equalIn d t x y).run P w = .ok r w
  | .int, t, d, a, b, x, y, r, hc, hd, hr, hx, hy, w => by
    obtain ⟨d, rfl⟩ : ∃ e, d = e + 1 := ⟨d - 1, by simp only [Sh.depth] at hd; omega⟩
    unfold eqSh at hr
    split at hr <;> first | (cases hr; done) | skip
    all_goals (try (rename_i h0; cases h0))
    split at hr <;> cases hr
    rename_i hk
    obtain ⟨dd, d1, d2⟩ := undT_ok hc
    cases dd <;> first | (cases d2; done) | skip
    simp only [Rv] at hx hy
    subst hx hy
    have := keq_eq hk; subst this
    simp [Op.equalIn, run_und d1, zeq_dec, int_beq]
  | .bool, t, d, a, b, x, y, r, hc, hd, hr, hx, hy, w => by
    obtain ⟨d, rfl⟩ : ∃ e, d = e + 1 := ⟨d - 1, by simp only [Sh.depth] at hd; omega⟩
    unfold eqSh at hr
    split at hr <;> first | (cases hr; done) | skip
    all_goals (try (rename_i h0; cases h0))
    cases hr
    obtain ⟨dd, d1, d2⟩ := undT_ok hc
    cases dd <;> first | (cases d2; done) | skip
    simp only [Rv] at hx hy
    subst hx hy
    simp [Op.equalIn, run_und d1]
  | .str fs, t, d, a, b, x, y, r, hc, hd, hr, hx, hy, w => by
    simp only [Sh.depth] at hd
    obtain ⟨d, rfl⟩ : ∃ e, d = e + 1 := ⟨d - 1, by omega⟩
    unfold eqSh at hr
    split at hr <;> first | (cases hr; done) | skip
    all_goals (try (rename_i h0; cases h0))
    simp only [chkSh, Bool.and_eq_true, Bool.not_eq_true'] at hc
    obtain ⟨dd, d1, d2⟩ := undT_ok hc.2
    cases dd <;> first | (cases d2; done) | skip
    rename_i gs
    obtain ⟨xs, h1, rfl⟩ := hx
    obtain ⟨ys, h2, rfl⟩ := hy
    have hf : P.fieldsOf t = gs := by unfold Program.fieldsOf; rw [d1]
    rw [run_equalIn_agg w d t _ _ (by rw [hf]; exact d1) hc.1, hf]
    exact eqFs_run fs gs.toList d _ _ xs ys r d2 (by omega) hr h1 h2 w
theorem eqFs_run : ∀ (fs : List (Nat × Nat × Sh)) (gs : List Field) (d : Nat) (l k : List AV) (xs ys : List Value) (r : Bool), chkFs P fs gs = true → depths fs ≤ d → eqFs fs l k = some r → RvL μ l xs → RvL μ k ys →
    ∀ w, (Op.eqFields d xs.toArray ys.toArray gs).run P w = .ok r w
  | [], [], d, l, k, xs, ys, r, hc, hd, hr, hx, hy, w => by
    simp only [eqFs] at hr; cases hr; rfl
  | (off, sz, s) :: fs, g :: gs, d, l, k, xs, ys, r, hc, hd, hr, hx, hy, w => by
    simp only [chkFs, Bool.and_eq_true] at hc
    obtain ⟨c1, c2, c3, c4, c5⟩ := hc
    have e := Nat.eq_of_beq_eq_true c2
    subst e
    simp only [eqFs] at hr
    split at hr
    · rename_i a b ha hb
      obtain ⟨u, u1, u2⟩ := partS_run c4 c3 ha hx
      obtain ⟨v, v1, v2⟩ := partS_run c4 c3 hb hy
      have hne : g.name ≠ "_" := by simpa using c1
      have hd1 : s.depth ≤ d := Nat.le_trans (Nat.le_max_left _ _) hd
      have hd2 : depths fs ≤ d := Nat.le_trans (Nat.le_max_right _ _) hd
      cases hq : eqSh s a b with
      | none => rw [hq] at hr; cases hr
      | some q =>
        have hE := eqSh_run s g.type d a b u v q c4 hd1 hq u1 v1
        rw [hq] at hr
        cases q with
        | true =>
          simp only at hr
          have hF := eqFs_run fs gs d l k xs ys r c5 hd2 hr hx hy
          simp [Op.eqFields, hne, u2, v2, hE, hF, Result.andThen]
        | false =>
          simp only [Option.some.injEq] at hr
          subst hr
          simp [Op.eqFields, hne, u2, v2, hE, Result.andThen]
    · cases hr
  | [], _ :: _, d, l, k, xs, ys, r, hc, hd, hr, hx, hy, w => by simp [chkFs] at hc
  | _ :: _, [], d, l, k, xs, ys, r, hc, hd, hr, hx, hy, w => by simp [chkFs] at hc
end
theorem eqSh_str {fs : List (Nat × Nat × Sh)} {r : Bool} : ∀ {a b : AV}, eqSh (.str fs) a b = some r → ∃ l k, a = .agg l ∧ b = .agg k := by
  intro a b h
  cases a <;> cases b <;> first | exact ⟨_, _, rfl, rfl⟩ | (simp [eqSh] at h; done)
noncomputable def c_eqs (P : Program) (ne : Bool) (s : Sh) (x y : AOd) : Op → Bool
  | .binOp b t x' y' _ => (match ne with | true => b == .neq | false => b == .eql) && (Nat.ble s.depth 10000 && (chkSh P s t && ((match s with | .str _ => true | _ => false) && ((!P.eqGuardType P.depth t) && (chkD x x' && chkD y y')))))
  | _ => false
theorem p_eqs {ne : Bool} {s : Sh} {x y : AOd} {op : Op} (hc : c_eqs P ne s x y op = true) : OkP P op (o_eqs ne s x y) := by
  intro σA h v h' hr
  unfold c_eqs at hc
  split at hc
  · rename_i b t x' y' t'
    simp only [Bool.and_eq_true, Bool.not_eq_true'] at hc
    obtain ⟨c0, c1, c2, c3, c4, c5, c6⟩ := hc
    unfold o_eqs at hr
    split at hr
    · rename_i r e1
      cases hr
      refine ⟨rfl, fun μ σ hE => ⟨_, rfl, fun o w ho => ?_⟩⟩
      have g1 := chkD_ok c5 hE
      have g2 := chkD_ok c6 hE
      have g3 : ∀ w, (Op.equal t (ev σ x') (ev σ y')).run P w = .ok r w := eqSh_run s t 10000 _ _ _ _ r c2 (Nat.le_of_ble_eq_true c1) e1 g1 g2
      cases s <;> first | (cases c3; done) | skip
      obtain ⟨l, k, h1, h2⟩ := eqSh_str e1
      rw [h1] at g1; rw [h2] at g2
      obtain ⟨xs, _, g1⟩ := g1
      obtain ⟨ys, _, g2⟩ := g2
      rw [g1, g2] at g3
      refine ⟨by rw [ho]; rfl, ?_⟩
      cases ne
      · have := eq_of_beq c0; subst this
        simp [execOp, ho, g1, g2, binOp, eqGuard, c4, g3, ne_xor]
      · have := eq_of_beq c0; subst this
        simp [execOp, ho, g1, g2, binOp, eqGuard, c4, g3, ne_xor]
    · cases hr
  · cases hc
end
end Go.KX
