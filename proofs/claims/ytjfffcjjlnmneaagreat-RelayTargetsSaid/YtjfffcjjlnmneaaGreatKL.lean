/- The base of the walks: frames as functions from slots to values, worlds that keep blocks, one rule for each kind of code. -/
import Derived.WalkKit
import Derived.TacticsIn
import Derived.OrdersIn
import Derived.RangeFuncIn
import Derived.RangeFuncLeaves
import Derived.LoopNIn
namespace Go.KL
open Go.RowKit

abbrev Env := Nat → Value
def upd (σ : Env) (d : Nat) (v : Value) : Env := fun t => bif Nat.beq t d then v else σ t
def ev (σ : Env) : Operand → Value
  | .tmp t => σ t
  | .const v => v
  | .global g => .pointer (some ⟨g, 0, none⟩)
  | .func f => .func (.func f) #[] #[]
def WF (r : Option Nat) : Fence := { fn := fun _ => True, depth := none, alive := false, round := r }

structure Rep (N : Nat) (D : List Deferred) (a : Act) (σ : Env) : Prop where
  size : a.tmps.size = N
  defers : a.defers = D
  get : ∀ t, a.tmps.getD t undef = σ t

theorem upd_same (σ : Env) (d : Nat) (v : Value) : upd σ d v d = v := by simp [upd]
theorem upd_ne (σ : Env) {d t : Nat} (v : Value) (h : t ≠ d) : upd σ d v t = σ t := by
  unfold upd
  have : Nat.beq t d = false := by
    cases hb : Nat.beq t d
    · rfl
    · exact absurd (Nat.eq_of_beq_eq_true hb) h
  simp [this]

theorem Rep.eval {N : Nat} {D : List Deferred} {a : Act} {σ : Env} (h : Rep N D a σ) : a.eval = ev σ := by
  funext x
  cases x with
  | tmp t => exact h.get t
  | const v => rfl
  | global g => rfl
  | func f => rfl

theorem Rep.put {N : Nat} {D : List Deferred} {a : Act} {σ : Env} (h : Rep N D a σ) {d : Nat} (hd : d < N) (v : Value) : Rep N D (a.put (some d) v) (upd σ d v) := by
  refine ⟨by simp [Act.put, h.size], h.defers, fun t => ?_⟩
  by_cases e : t = d
  · subst e
    rw [upd_same]
    simp [Act.put, Array.getD_eq_getD_getElem?, h.size, hd]
  · rw [upd_ne _ _ e, ← h.get t]
    simp only [Act.put, Array.getD_eq_getD_getElem?]
    rw [Array.getElem?_setIfInBounds_ne (fun e' => e e'.symm)]

abbrev Post := List Deferred → Exit → Env → World → Prop
def liftQ (N : Nat) (Q : Post) (e : Exit) (a : Act) (w : World) : Prop := ∃ σ D, Rep N D a σ ∧ Q D e σ w
def OK (r : Option Nat) (N : Nat) (P : Program) (ops : List Oper) (Q : Post) (l : List Oper) (D : List Deferred) (σ : Env) (w : World) : Prop :=
  ∀ a, Rep N D a σ → wpListIn (WF r) 0 P ops.toArray (liftQ N Q) l a w
def CK (r : Option Nat) (N : Nat) (P : Program) (c : Code) (Q : Post) (D : List Deferred) (σ : Env) (w : World) : Prop :=
  ∀ a, Rep N D a σ → Code.wpIn (WF r) 0 P c (liftQ N Q) a w

def thenQ (K : List Deferred → Env → World → Prop) (Q : Post) : Post := fun D e σ w =>
  match e with
  | .normal => K D σ w
  | e => Q D e σ w
def blockQ (id : Nat) (Q : Post) : Post := fun D e σ w =>
  match e with
  | .exit i => if i = id then Q D .normal σ w else Q D (.exit i) σ w
  | e => Q D e σ w

section rules
variable {r : Option Nat} {N : Nat} {P : Program} {Q : Post} {D : List Deferred} {σ : Env} {w : World}

theorem CK.mono {c : Code} {Q' : Post} (h : CK r N P c Q D σ w) (hq : ∀ D e σ w, Q D e σ w → Q' D e σ w) : CK r N P c Q' D σ w :=
  fun a ha => wpIn_mono (h a ha) fun _ _ _ ⟨σ, D, hr, q⟩ => ⟨σ, D, hr, hq _ _ _ _ q⟩
theorem CK.seq {x y : Code} (h : CK r N P x (thenQ (fun D σ w => CK r N P y Q D σ w) Q) D σ w) : CK r N P (.seq x y) Q D σ w := by
  intro a ha
  refine wpIn_seq (wpIn_mono (h a ha) ?_)
  rintro e a w ⟨σ, D, hr, q⟩
  cases e with
  | normal => exact q a hr
  | _ => exact ⟨σ, D, hr, q⟩
/-- A cut: what the first piece leaves. -/
theorem CK.cut {x y : Code} (M : Env → World → Prop) (h1 : CK r N P x (thenQ (fun D' σ w => D' = D ∧ M σ w) Q) D σ w)
    (h2 : ∀ σ w, M σ w → CK r N P y Q D σ w) : CK r N P (.seq x y) Q D σ w := by
  refine CK.seq (h1.mono ?_)
  intro D' e σ w q
  cases e with
  | normal => obtain ⟨rfl, hm⟩ := q; exact h2 _ _ hm
  | _ => exact q
theorem CK.skip (h : Q D .normal σ w) : CK r N P .skip Q D σ w := fun _ ha => wpIn_skip ⟨σ, D, ha, h⟩
theorem CK.label {l : Nat} (h : Q D .normal σ w) : CK r N P (.label l) Q D σ w := fun _ ha => wpIn_label ⟨σ, D, ha, h⟩
theorem CK.exit {id : Nat} (h : Q D (.exit id) σ w) : CK r N P (.exit id) Q D σ w := fun _ ha => wpIn_exit ⟨σ, D, ha, h⟩
theorem CK.ret (h : Q D .ret σ w) : CK r N P .ret Q D σ w := fun _ ha => wpIn_ret ⟨σ, D, ha, h⟩
theorem CK.block {id : Nat} {c : Code} (h : CK r N P c (blockQ id Q) D σ w) : CK r N P (.block id c) Q D σ w := by
  intro a ha
  refine wpIn_block (wpIn_mono (h a ha) ?_)
  rintro e a w ⟨σ, D, hr, q⟩
  cases e with
  | exit i =>
    simp only [blockQ] at q
    simp only [Exit.inBlock]
    split
    · rename_i h; rw [if_pos h] at q; exact ⟨σ, D, hr, q⟩
    · rename_i h; rw [if_neg h] at q; exact ⟨σ, D, hr, q⟩
  | _ => exact ⟨σ, D, hr, q⟩
theorem CK.condT {c : Operand} {x y : Code} (hc : ev σ c = .bool true) (h : CK r N P x Q D σ w) : CK r N P (.cond c x y) Q D σ w :=
  fun a ha => wpIn_cond_true (by rw [ha.eval]; exact hc) (h a ha)
theorem CK.condF {c : Operand} {x y : Code} (hc : ev σ c = .bool false) (h : CK r N P y Q D σ w) : CK r N P (.cond c x y) Q D σ w :=
  fun a ha => wpIn_cond_false (by rw [ha.eval]; exact hc) (h a ha)
theorem CK.condB {c : Operand} {x y : Code} {p : Prop} [Decidable p] (hc : ev σ c = .bool (decide p)) (h1 : p → CK r N P x Q D σ w) (h2 : ¬ p → CK r N P y Q D σ w) : CK r N P (.cond c x y) Q D σ w := by
  by_cases h : p
  · exact CK.condT (by rw [hc]; simp [h]) (h1 h)
  · exact CK.condF (by rw [hc]; simp [h]) (h2 h)
theorem CK.condb {c : Operand} {x y : Code} {b : Bool} (hc : ev σ c = .bool b) (h1 : b = true → CK r N P x Q D σ w) (h2 : b = false → CK r N P y Q D σ w) : CK r N P (.cond c x y) Q D σ w := by
  cases b
  · exact CK.condF hc (h2 rfl)
  · exact CK.condT hc (h1 rfl)
theorem CK.loop {c : Code} (I : Env → World → Prop) (μ : Env → World → Nat) (h0 : I σ w)
    (h : ∀ σ w, I σ w → CK r N P c (thenQ (fun D' σ' w' => D' = D ∧ I σ' w' ∧ μ σ' w' < μ σ w) Q) D σ w) : CK r N P (.loop c) Q D σ w := by
  intro a ha
  refine wpIn_loop (fun a w => ∃ σ, Rep N D a σ ∧ I σ w) (fun a w => μ (fun t => a.tmps.getD t undef) w) ⟨σ, ha, h0⟩ ?_
  rintro a w ⟨σ, ha, hI⟩
  refine wpIn_mono (h σ w hI a ha) ?_
  rintro e a' w' ⟨σ', D', hr, q⟩
  have e1 : (fun t => a.tmps.getD t undef) = σ := funext ha.get
  cases e with
  | normal =>
    obtain ⟨rfl, hI', hlt⟩ := q
    have e2 : (fun t => a'.tmps.getD t undef) = σ' := funext hr.get
    exact ⟨⟨σ', hr, hI'⟩, by rw [e1, e2]; exact hlt⟩
  | _ => exact ⟨σ', D', hr, q⟩
theorem CK.loopM {c : Code} (I : Nat → Env → World → Prop) {m : Nat} (h0 : I m σ w)
    (h : ∀ m σ w, I m σ w → CK r N P c (thenQ (fun D' σ' w' => D' = D ∧ ∃ m', m' < m ∧ I m' σ' w') Q) D σ w) : CK r N P (.loop c) Q D σ w := by
  have key : ∀ M m σ w, m < M → I m σ w → ∀ a, Rep N D a σ → Code.roundsIn (WF r) 0 P c (liftQ N Q) M a w := by
    intro M
    induction M with
    | zero => intro m _ _ hm; omega
    | succ M ih =>
      intro m σ w hm hI a ha
      rw [roundsIn_succ]
      refine wpIn_mono (h m σ w hI a ha) ?_
      rintro e a' w' ⟨σ', D', hr, q⟩
      cases e with
      | normal =>
        obtain ⟨rfl, m', hlt, hI'⟩ := q
        exact ih m' σ' w' (by omega) hI' a' hr
      | _ => exact ⟨σ', D', hr, q⟩
  exact fun a ha => wpIn_loop_rounds (m + 1) (key (m + 1) m σ w (by omega) h0 a ha)
theorem thenQ_n {K : List Deferred → Env → World → Prop} (h : K D σ w) : thenQ K Q D .normal σ w := h
theorem thenQ_e {K : List Deferred → Env → World → Prop} {i : Nat} (h : Q D (.exit i) σ w) : thenQ K Q D (.exit i) σ w := h
theorem thenQ_r {K : List Deferred → Env → World → Prop} (h : Q D .ret σ w) : thenQ K Q D .ret σ w := h
theorem blockQ_n {i : Nat} (h : Q D .normal σ w) : blockQ i Q D .normal σ w := h
theorem blockQ_h {i : Nat} (h : Q D .normal σ w) : blockQ i Q D (.exit i) σ w := by show (if i = i then _ else _); rw [if_pos rfl]; exact h
theorem blockQ_m {i j : Nat} (h : Q D (.exit j) σ w) (hne : Nat.beq j i = false := by rfl) : blockQ i Q D (.exit j) σ w := by
  have : j ≠ i := fun e => by subst e; rw [Nat.beq_refl] at hne; cases hne
  show (if j = i then _ else _); rw [if_neg this]; exact h
theorem blockQ_r {i : Nat} (h : Q D .ret σ w) : blockQ i Q D .ret σ w := h
theorem CK.region {id : Nat} {l : List Oper} (h : OK r N P l Q l D σ w) : CK r N P (.region id l.toArray false) Q D σ w :=
  fun a ha => wpIn_region_lit (h a ha)
theorem OK.nil {ops : List Oper} (h : Q D .normal σ w) : OK r N P ops Q [] D σ w := fun _ ha => wpListIn_nil ⟨σ, D, ha, h⟩
/-- The frame under a new name, of which the slots that matter are known. -/
theorem CK.fresh {c : Code} {σ : Env} (h : ∀ σ', (∀ t, σ' t = σ t) → CK r N P c Q D σ' w) : CK r N P c Q D σ w := h σ fun _ => rfl
end rules

/-! ### Operations -/
def wanted (ops : List Oper) (σ : Env) (o : Oper) : Bool :=
  match o.guard with
  | none => true
  | some (j, b) => match (ops[j]?).bind (·.dst) with
    | some d => match σ d with
      | .bool b' => b' == b
      | _ => false
    | none => false
def notDefer : Op → Bool
  | .defer _ => false
  | _ => true

theorem wanted_eq {N : Nat} {D : List Deferred} {a : Act} {σ : Env} (h : Rep N D a σ) (ops : List Oper) (o : Oper) (hw : wanted ops σ o = true) :
    Region.wanted o (yielded ops.toArray a.tmps) = true := by
  unfold wanted at hw
  unfold Region.wanted
  cases hg : o.guard with
  | none => rfl
  | some g =>
    obtain ⟨j, b⟩ := g
    simp only [hg] at hw ⊢
    unfold yielded
    simp only [List.getElem?_toArray]
    cases hd : (ops[j]?).bind (·.dst) with
    | none => simp [hd] at hw
    | some d =>
      simp only [hd] at hw
      have hg' := h.get d
      rw [Array.getD_eq_getD_getElem?] at hg'
      simp only [Option.bind_some]
      cases ht : a.tmps[d]? with
      | none =>
        rw [ht] at hg'
        simp only [Option.getD_none] at hg'
        rw [← hg'] at hw
        simp [undef] at hw
      | some v =>
        rw [ht] at hg'
        simp only [Option.getD_some] at hg'
        subst hg'
        cases hv : σ d <;> simp_all
theorem unwanted_eq {N : Nat} {D : List Deferred} {a : Act} {σ : Env} (h : Rep N D a σ) (ops : List Oper) (o : Oper) (hw : wanted ops σ o = false) :
    Region.wanted o (yielded ops.toArray a.tmps) = false := by
  unfold wanted at hw
  unfold Region.wanted
  cases hg : o.guard with
  | none => simp [hg] at hw
  | some g =>
    obtain ⟨j, b⟩ := g
    simp only [hg] at hw ⊢
    unfold yielded
    simp only [List.getElem?_toArray]
    cases hd : (ops[j]?).bind (·.dst) with
    | none => simp
    | some d =>
      simp only [hd] at hw
      have hg' := h.get d
      rw [Array.getD_eq_getD_getElem?] at hg'
      simp only [Option.bind_some]
      cases ht : a.tmps[d]? with
      | none => simp
      | some v =>
        rw [ht] at hg'
        simp only [Option.getD_some] at hg'
        subst hg'
        cases hv : σ d <;> simp_all

section ops
variable {r : Option Nat} {N : Nat} {P : Program} {ops : List Oper} {Q : Post} {D : List Deferred} {σ : Env} {w w' : World} {rest : List Oper} {o : Oper} {d : Nat}

/-- What one operation does: the value that it makes, and the world behind it. -/
def Runs (P : Program) (σ : Env) (w : World) (o : Oper) (v : Value) (w' : World) : Prop :=
  notDefer o.op = true ∧ (execOp (ev σ) o).run P w = .ok (.value v) w'
def Does (P : Program) (σ : Env) (w : World) (o : Oper) (w' : World) : Prop :=
  notDefer o.op = true ∧ (execOp (ev σ) o).run P w = .ok .skip w'

theorem semAt_eq (r : Option Nat) (ρ : Operand → Value) (o : Oper) (h : notDefer o.op = true) : o.semAt r ρ = execOp ρ o :=
  Oper.semAt_eq r ρ o fun c e => by rw [e] at h; cases h

theorem OK.val {v : Value} (hw : wanted ops σ o = true) (hd : o.dst = some d) (hdN : Nat.blt d N = true) (hr : Runs P σ w o v w')
    (k : OK r N P ops Q rest D (upd σ d v) w') : OK r N P ops Q (o :: rest) D σ w := by
  intro a ha
  have hdN' : d < N := by simpa [Nat.blt_eq] using hdN
  simp only [wpListIn, wanted_eq ha ops o hw, if_true]
  refine ⟨fun _ _ => trivial, ?_⟩
  rw [semAt_eq _ _ _ hr.1, ha.eval, hr.2]
  simp only [Oper.uponIn, hd]
  exact k _ (ha.put hdN' v)
theorem OK.unit (hw : wanted ops σ o = true) (hd : o.dst = none) (hr : Does P σ w o w')
    (k : OK r N P ops Q rest D σ w') : OK r N P ops Q (o :: rest) D σ w := by
  intro a ha
  simp only [wpListIn, wanted_eq ha ops o hw, if_true]
  refine ⟨fun _ _ => trivial, ?_⟩
  rw [semAt_eq _ _ _ hr.1, ha.eval, hr.2]
  simp only [Oper.uponIn, hd, Act.put]
  exact k _ ha
theorem OK.valn {v : Value} (hw : wanted ops σ o = true) (hd : o.dst = none) (hr : Runs P σ w o v w')
    (k : OK r N P ops Q rest D σ w') : OK r N P ops Q (o :: rest) D σ w := by
  intro a ha
  simp only [wpListIn, wanted_eq ha ops o hw, if_true]
  refine ⟨fun _ _ => trivial, ?_⟩
  rw [semAt_eq _ _ _ hr.1, ha.eval, hr.2]
  simp only [Oper.uponIn, hd, Act.put]
  exact k _ ha
/-- An operation that is not wanted (its guard says no). -/
theorem OK.pass (hw : wanted ops σ o = false) (hd : o.dst = some d) (hdN : Nat.blt d N = true)
    (k : OK r N P ops Q rest D (upd σ d undef) w) : OK r N P ops Q (o :: rest) D σ w := by
  intro a ha
  have hdN' : d < N := by simpa [Nat.blt_eq] using hdN
  simp only [wpListIn, unwanted_eq ha ops o hw, Bool.false_eq_true, if_false]
  refine ⟨fun _ _ => trivial, ?_⟩
  rw [hd]
  exact k _ (ha.put hdN' _)
theorem OK.passn (hw : wanted ops σ o = false) (hd : o.dst = none)
    (k : OK r N P ops Q rest D σ w) : OK r N P ops Q (o :: rest) D σ w := by
  intro a ha
  simp only [wpListIn, unwanted_eq ha ops o hw, Bool.false_eq_true, if_false]
  refine ⟨fun _ _ => trivial, ?_⟩
  rw [hd]
  exact k _ ha

/-! ### Calls -/
/-- A function called with these arguments in this world returns, and what it returns and the world behind it are so. -/
def Gv (P : Program) (f : FuncId) (args : List Value) (w : World) (R : Value → World → Prop) : Prop :=
  Calls P f args.toArray w fun e w' => ∃ v, e = .returned v ∧ R v w'
theorem Calls.mono' {f : FuncId} {args : Array Value} {R R' : Ending → World → Prop} (h : Calls P f args w R) (hr : ∀ e w', R e w' → R' e w') : Calls P f args w R' :=
  fun cs => let ⟨e, w', fr, a, b⟩ := h cs; ⟨e, w', fr, hr _ _ a, b⟩
theorem Gv.mono {f : FuncId} {args : List Value} {R R' : Value → World → Prop} (h : Gv P f args w R) (hr : ∀ v w', R v w' → R' v w') : Gv P f args w R' :=
  Calls.mono' h fun _ _ ⟨v, e, hR⟩ => ⟨v, e, hr _ _ hR⟩
theorem callsIn_round {F : Fence} {n : Nat} {l : Nat} {f : FuncId} {args : Array Value} {R : Ending → World → Prop} (h : CallsIn F n P f args w R) : CallsIn (F.inRound l) n P f args w R := h
theorem Gv.callsIn {f : FuncId} {args : List Value} {R : Value → World → Prop} (h : Gv P f args w R) (r : Option Nat) :
    CallsIn (WF r) 0 P f args.toArray w fun e w' => ∃ v, e = .returned v ∧ R v w' := by
  have h' : CallsIn Fence.wide 0 P f args.toArray w fun e w' => ∃ v, e = .returned v ∧ R v w' := callsIn_wide.2 h
  cases r with
  | none => exact h'
  | some l => exact callsIn_round (l := l) h'

theorem mapnil : List.map (ev σ) [] = [] := rfl
theorem mapcons {x : Operand} {l : List Operand} {v : Value} {vs : List Value} (h : ev σ x = v) (ht : List.map (ev σ) l = vs) : List.map (ev σ) (x :: l) = v :: vs := by
  rw [List.map_cons, h, ht]

/-- A call's run, whose callee is the function f. -/
def Enters (P : Program) (σ : Env) (w : World) (o : Oper) (f : FuncId) (args : List Value) : Prop :=
  notDefer o.op = true ∧ (execOp (ev σ) o).run P w = .ok (.enter f args.toArray) w
theorem Enters.mk {x : Operand} {l : List Operand} {ty : Array TypeId} {f : FuncId} {fl cl vs args : List Value}
    (ho : o.op = .call { callee := .value x, args := l.toArray, argTypes := ty }) (hx : ev σ x = .func (.func f) fl.toArray cl.toArray)
    (hcall : ∀ (args : Array Value) (w : World), (callFunc f args).run P w = .ok (.enter f args) w)
    (hl : List.map (ev σ) l = vs) (ha : fl ++ vs ++ cl = args) : Enters P σ w o f args := by
  refine ⟨by rw [ho]; rfl, ?_⟩
  subst ha hl
  simp [execOp, ho, resolve, hx, Deferred.ofValue, invoke, hcall]
theorem OK.call {f : FuncId} {args : List Value} {R : Value → World → Prop} (hw : wanted ops σ o = true) (hd : o.dst = some d) (hdN : Nat.blt d N = true)
    (he : Enters P σ w o f args) (hf : Gv P f args w R)
    (k : ∀ v w', R v w' → OK r N P ops Q rest D (upd σ d v) w') : OK r N P ops Q (o :: rest) D σ w := by
  intro a ha
  have hdN' : d < N := by simpa [Nat.blt_eq] using hdN
  simp only [wpListIn, wanted_eq ha ops o hw, if_true]
  refine ⟨fun _ _ => trivial, ?_⟩
  rw [semAt_eq _ _ _ he.1, ha.eval, he.2]
  simp only [Oper.uponIn, hd]
  refine ⟨fun h => (by cases h), ?_⟩
  refine CallsIn.mono (hf.callsIn r) ?_
  rintro e w' ⟨v, rfl, hR⟩
  exact k v w' hR _ (ha.put hdN' v)
theorem OK.calln {f : FuncId} {args : List Value} {R : Value → World → Prop} (hw : wanted ops σ o = true) (hd : o.dst = none)
    (he : Enters P σ w o f args) (hf : Gv P f args w R)
    (k : ∀ v w', R v w' → OK r N P ops Q rest D σ w') : OK r N P ops Q (o :: rest) D σ w := by
  intro a ha
  simp only [wpListIn, wanted_eq ha ops o hw, if_true]
  refine ⟨fun _ _ => trivial, ?_⟩
  rw [semAt_eq _ _ _ he.1, ha.eval, he.2]
  simp only [Oper.uponIn, hd]
  refine ⟨fun h => (by cases h), ?_⟩
  refine CallsIn.mono (hf.callsIn r) ?_
  rintro e w' ⟨v, rfl, hR⟩
  exact k v w' hR _ ha
end ops

/-! ### A function's entry and end -/
def resOne (σ : Env) : ResultVar → Sem Value
  | .tmp t => pure (σ t)
  | .cell a t => do loadVar t (← asAddr (σ a))
def resRun (rs : Array ResultVar) (σ : Env) : Sem Value := do
  let vs ← rs.mapM (resOne σ)
  pure (if h : vs.size = 1 then vs[0] else .tuple vs)
theorem resRun_eq {N : Nat} {D : List Deferred} {a : Act} {σ : Env} (h : Rep N D a σ) (fn : Func) : results fn a.tmps = resRun fn.results σ := by
  unfold results resRun
  congr 1
  congr 1
  funext x
  cases x with
  | tmp t => simp only [h.get, resOne]
  | cell a t => simp only [h.get, resOne]
def retQ (P : Program) (rs : Array ResultVar) (R : Value → World → Prop) : Post := fun D e σ w =>
  match e with
  | .normal | .ret => D = [] ∧ ∃ v, (resRun rs σ).run P w = .ok v w ∧ R v w
  | _ => False
def init (args : List Value) : Env := fun t => (args[t]?).getD undef

theorem init_rep (args : List Value) (N : Nat) (h : args.length ≤ N) :
    Rep N [] { tmps := args.toArray ++ Array.replicate (N - args.toArray.size) undef, defers := [] } (init args) := by
  refine ⟨by simp; omega, rfl, fun t => ?_⟩
  simp only [Array.getD_eq_getD_getElem?, init]
  rw [Array.getElem?_append]
  split
  · simp
  · rename_i hge
    simp only [List.size_toArray, Nat.not_lt] at hge
    rw [List.getElem?_eq_none hge, Array.getElem?_replicate]
    split <;> rfl

theorem Gv.of {P : Program} {f : FuncId} {fn : Func} {c : Code} {args : List Value} {w : World} {R : Value → World → Prop} {N : Nat} {rs : Array ResultVar}
    (hf : P.funcs[f]? = some fn) (hb : fn.body = some c) (hN : fn.ntmps = N) (hrs : fn.results = rs) (hle : Nat.ble args.length N = true)
    (h : CK none N P c (retQ P rs R) [] (init args) w) : Gv P f args w R := by
  refine callsIn_wide.1 (callsIn_of_wp hf hb trivial ?_ (n := 0))
  subst hN hrs
  refine wpIn_mono (h _ (init_rep args _ (Nat.le_of_ble_eq_true hle))) ?_
  rintro e a w ⟨σ, D, hr, q⟩
  cases e with
  | normal => obtain ⟨rfl, v, hv, hR⟩ := q; exact ⟨hr.defers, v, by rw [resRun_eq hr]; exact hv, v, rfl, hR⟩
  | ret => obtain ⟨rfl, v, hv, hR⟩ := q; exact ⟨hr.defers, v, by rw [resRun_eq hr]; exact hv, v, rfl, hR⟩
  | _ => exact q.elim

theorem res0 {P : Program} {σ : Env} {w : World} : (resRun #[] σ).run P w = .ok (.tuple #[]) w := by simp [resRun]
theorem res1 {P : Program} {σ : Env} {w : World} {t : Nat} {v : Value} (h : σ t = v) : (resRun #[.tmp t] σ).run P w = .ok v w := by subst h; simp [resRun, resOne]
theorem res2 {P : Program} {σ : Env} {w : World} {t u : Nat} {x y : Value} (h : σ t = x) (h2 : σ u = y) : (resRun #[.tmp t, .tmp u] σ).run P w = .ok (.tuple #[x, y]) w := by subst h h2; simp [resRun, resOne]
theorem res3 {P : Program} {σ : Env} {w : World} {t u s : Nat} {x y z : Value} (h : σ t = x) (h2 : σ u = y) (h3 : σ s = z) : (resRun #[.tmp t, .tmp u, .tmp s] σ).run P w = .ok (.tuple #[x, y, z]) w := by
  subst h h2 h3; simp [resRun, resOne]
end Go.KL
