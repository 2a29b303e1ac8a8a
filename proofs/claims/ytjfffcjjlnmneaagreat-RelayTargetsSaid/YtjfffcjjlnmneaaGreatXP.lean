/- Values that are the same; operations that do not look at memory; what operations look at, on the model's side. -/
import Derived.Test.YtjfffcjjlnmneaaGreatXO
namespace Go.KX
open Go.RowKit Go.KL

theorem keq_eq' {a b : IntKind} (h : keq a b = true) : a = b := by
  cases a <;> cases b <;> first | rfl | (simp [keq] at h)
theorem zeq_eq' {a b : Int} (h : zeq a b = true) : a = b := by
  cases a with
  | ofNat a => cases b with
    | ofNat b => simp only [zeq] at h; rw [Nat.eq_of_beq_eq_true h]
    | negSucc b => simp [zeq] at h
  | negSucc a => cases b with
    | ofNat b => simp [zeq] at h
    | negSucc b => simp only [zeq] at h; rw [Nat.eq_of_beq_eq_true h]
mutual
theorem same_eq : ∀ {a b : AV}, same a b = true → a = b
  | .int k n, .int k' n', h => by simp only [same, Bool.and_eq_true] at h; rw [keq_eq' h.1, zeq_eq' h.2]
  | .bool a, .bool b, h => by simp only [same, beq_iff_eq] at h; rw [h]
  | .ptr b o, .ptr b' o', h => by simp only [same, Bool.and_eq_true] at h; rw [Pos.beq_eq h.1, Nat.eq_of_beq_eq_true h.2]
  | .pnil, .pnil, _ => rfl
  | .sl b o n c, .sl b' o' n' c', h => by simp only [same, Bool.and_eq_true] at h; rw [Pos.beq_eq h.1, Nat.eq_of_beq_eq_true h.2.1, Nat.eq_of_beq_eq_true h.2.2.1, Nat.eq_of_beq_eq_true h.2.2.2]
  | .rw b o n c, .rw b' o' n' c', h => by simp only [same, Bool.and_eq_true] at h; rw [Pos.beq_eq h.1, Nat.eq_of_beq_eq_true h.2.1, Nat.eq_of_beq_eq_true h.2.2.1, Nat.eq_of_beq_eq_true h.2.2.2]
  | .snil, .snil, _ => rfl
  | .map b, .map b', h => by simp only [same] at h; rw [Pos.beq_eq h]
  | .mnil, .mnil, _ => rfl
  | .fn f fi ca, .fn f' fi' ca', h => by simp only [same, Bool.and_eq_true] at h; rw [Pos.beq_eq h.1, sameL_eq h.2.1, sameL_eq h.2.2]
  | .fnil, .fnil, _ => rfl
  | .agg l, .agg l', h => by simp only [same] at h; rw [sameL_eq h]
  | .tup l, .tup l', h => by simp only [same] at h; rw [sameL_eq h]
theorem sameL_eq : ∀ {a b : List AV}, sameL a b = true → a = b
  | [], [], _ => rfl
  | a :: l, b :: k, h => by simp only [sameL, Bool.and_eq_true] at h; rw [same_eq h.1, sameL_eq h.2]
  | [], _ :: _, h => by simp [sameL] at h
  | _ :: _, [], h => by simp [sameL] at h
end

section
variable {tb : Tr AF} {ex exY : Run} {σ : Tr AV} {h h' : AH} {v : AV}
theorem okV_all {o : Option AV} (hr : okV h o = some (v, h')) (h2 : AH) : okV h2 o = some (v, h2) := by
  cases o with
  | none => cases hr
  | some x => cases hr; rfl
theorem ifO_all {b : Bool} {x : AV} (hr : ifO b (some (x, h)) = some (v, h')) (h2 : AH) : ifO b (some (x, h2)) = some (v, h2) := by
  cases b with
  | true => cases hr; rfl
  | false => cases hr
theorem ifO_okV {b : Bool} {o : Option AV} (hr : ifO b (okV h o) = some (v, h')) (h2 : AH) : ifO b (okV h2 o) = some (v, h2) := by
  cases b with
  | true => exact okV_all hr h2
  | false => cases hr
/-- An operation that does not look at memory. -/
theorem pure_h (op : AOp) (hk : kdA op = 3) (hr : opY op tb ex exY σ h = some (v, h')) (h2 : AH) : opY op tb ex exY σ h2 = some (v, h2) := by
  cases op <;> first
    | (simp [kdA] at hk; done)
    | (dsimp only [opY] at hr ⊢
       first
        | exact okV_all hr h2
        | (simp only [o_mv, o_pick, o_nilc, o_eqb, o_eqn, o_eqs, o_not, o_cvt, o_mkf, o_slc, o_slcA, o_fad, o_fld, o_fldA, o_iad, o_iadA, o_ix, o_ixA, o_ext, o_len, o_cap, o_bad, o_ixs] at hr ⊢
           repeat' (split at hr)
           all_goals first
             | exact okV_all hr h2
             | (cases hr; rfl)
             | (cases hr; done)
             | exact ifO_all hr h2
             | exact ifO_okV hr h2))
end
/-! ### Frames that agree where an operation looks -/
section
variable {P : Program} {l : List Oper} {σ σ' : Env} {o : Oper} {w : World}
def Agr (l : List Oper) (o : Oper) (σ σ' : Env) : Prop := ∀ d ∈ looks l o, σ d = σ' d
theorem Agr.symm (h : Agr l o σ σ') : Agr l o σ' σ := fun d hd => (h d hd).symm
theorem ev_agr (h : Agr l o σ σ') : ∀ y ∈ o.op.operands, ev σ y = ev σ' y := by
  intro y hy
  cases y with
  | tmp t => exact h t (List.mem_append_left _ (List.mem_filterMap.2 ⟨.tmp t, by simpa using hy, rfl⟩))
  | _ => rfl
theorem wanted_agr (h : Agr l o σ σ') : wanted l σ o = wanted l σ' o := by
  unfold wanted
  cases hg : o.guard with
  | none => rfl
  | some g =>
    obtain ⟨j, b⟩ := g
    simp only
    cases hd : (l[j]?).bind (·.dst) with
    | none => rfl
    | some t =>
      simp only
      rw [h t (by unfold looks; rw [hg]; simp only [hd]; simp)]
theorem run_agr (hs : selects o = false) (h : Agr l o σ σ') : execOp (ev σ) o = execOp (ev σ') o := execOp_congr o (sel_ne hs) (ev_agr h)
theorem Runs.agr (hs : selects o = false) (h : Agr l o σ σ') {v : Value} {w' : World} : Runs P σ w o v w' ↔ Runs P σ' w o v w' := by
  unfold Runs; rw [run_agr hs h]
theorem Runs.det {v v' : Value} {w1 w2 : World} (h : Runs P σ w o v w1) (h' : Runs P σ w o v' w2) : v = v' ∧ w1 = w2 := by
  have := h.2.symm.trans h'.2
  simp only [Result.ok.injEq] at this
  obtain ⟨e, e2⟩ := this
  exact ⟨by simpa using e, e2⟩
theorem Step1.agr (hs : selects o = false) (h : Agr l o σ σ') {R : Value → World → Prop} (hh : Step1 P l o σ w R) : Step1 P l o σ' w R := by
  have e := run_agr hs h
  have ew := wanted_agr h
  rcases hh with ⟨h1, ⟨h2, w', h3, h4⟩ | ⟨v, w', h3, h4⟩ | ⟨f, args, R', h3, h4, h5⟩ | hy⟩ | ⟨h1, h2⟩
  · exact .inl ⟨ew ▸ h1, .inl ⟨h2, w', by unfold Does at h3 ⊢; rw [← e]; exact h3, h4⟩⟩
  · exact .inl ⟨ew ▸ h1, .inr (.inl ⟨v, w', by unfold Runs at h3 ⊢; rw [← e]; exact h3, h4⟩)⟩
  · exact .inl ⟨ew ▸ h1, .inr (.inr (.inl ⟨f, args, R', by unfold Enters at h3 ⊢; rw [← e]; exact h3, h4, h5⟩))⟩
  · exact .inl ⟨ew ▸ h1, .inr (.inr (.inr (by unfold Rounds at hy ⊢; rw [← e]; exact hy)))⟩
  · exact .inr ⟨ew ▸ h1, h2⟩
end
end Go.KX
namespace Go.KX
open Go.RowKit Go.KL

section
variable {tb : Tr AF} {ex exY : Run} {C : Chk} {P : Program}
theorem runOps_split : ∀ (l1 l2 : List AO) (σ : Tr AV) (h : AH) (r : Tr AV × AH), runOps tb ex exY (l1 ++ l2) σ h = some r → ∃ σ1 h1, runOps tb ex exY l1 σ h = some (σ1, h1) ∧ runOps tb ex exY l2 σ1 h1 = some r
  | [], l2, σ, h, r, hr => ⟨σ, h, runOps_nil _ _ _ _ _, hr⟩
  | a :: l1, l2, σ, h, r, hr => by
    rw [List.cons_append, runOps_cons] at hr
    rw [runOps_cons]
    cases hw : wantA σ a.grd with
    | true =>
      rw [hw] at hr
      simp only at hr ⊢
      cases hq : opK a.kd a.op tb ex exY σ h with
      | none => rw [hq] at hr; cases hr
      | some q =>
        rw [hq] at hr
        exact runOps_split l1 l2 _ _ r hr
    | false =>
      rw [hw] at hr
      exact runOps_split l1 l2 _ _ r hr
theorem putD_get {d : Option Pos} {σ : Tr AV} {v : AV} {p : Pos} : evA (putD d σ v) (.t p) = if d = some p then v else evA σ (.t p) := by
  cases d with
  | none =>
    rw [if_neg (by simp)]
    rfl
  | some q =>
    show evA (σ.set q v) (.t p) = _
    rw [evA_t, Tr.get_set]
    by_cases e : p = q
    · subst e
      rw [if_pos rfl, if_pos rfl]
      rfl
    · rw [if_neg e, if_neg (fun h => e (by cases h; rfl)), evA_t]
/-- A slot that no operation of a list writes. -/
theorem runOps_slot : ∀ (l : List AO) (σ : Tr AV) (h : AH) (σ' : Tr AV) (h' : AH), runOps tb ex exY l σ h = some (σ', h') → ∀ p, (∀ a ∈ l, a.dst ≠ some p) → evA σ' (.t p) = evA σ (.t p)
  | [], σ, h, σ', h', hr, p, _ => by
    rw [runOps_nil] at hr
    cases hr
    rfl
  | a :: l, σ, h, σ', h', hr, p, hp => by
    have hn : a.dst ≠ some p := hp a (by simp)
    rw [runOps_cons] at hr
    cases hw : wantA σ a.grd with
    | true =>
      rw [hw] at hr
      simp only at hr
      cases hq : opK a.kd a.op tb ex exY σ h with
      | none => rw [hq] at hr; cases hr
      | some q =>
        rw [hq] at hr
        rw [runOps_slot l _ _ _ _ hr p fun b hb => hp b (by simp [hb]), putD_get, if_neg hn]
    | false =>
      rw [hw] at hr
      rw [runOps_slot l _ _ _ _ hr p fun b hb => hp b (by simp [hb]), putD_get, if_neg hn]
variable {μ μ' : Mu} {h : AH} {w : World}
/-- A block that is there, and that the machine did not know, under the next name. -/
theorem Sim.adopt {c : Cl} {B : AB} (S : Sim C P μ h w) (hlt : c.1 < w.heap.size) (hn : ∀ p d, μ p = some d → d.1 ≠ c.1) (hB : AbR C P (μ.add h.nx c) w c B) : Sim C P (μ.add h.nx c) (h.push B) w := by
  have hn0 := S.nx h.nx (Nat.le_refl _)
  have hle := Mu.add_le (c := c) hn0
  refine ⟨?_, ?_, ?_, ?_⟩
  · intro p hp
    have hp : h.nx.succ.nat ≤ p.nat := hp
    rw [Pos.nat_succ] at hp
    unfold Mu.add
    rw [if_neg (fun e => by subst e; omega)]
    exact S.nx p (by omega)
  · intro p d hd
    unfold Mu.add at hd
    split at hd
    · cases hd; exact hlt
    · exact S.lt p d hd
  · intro p q a b d e hp hq la lb hd he hde
    simp only [AH.push, Tr.get_set] at hp hq
    unfold Mu.add at hd he
    split at hd <;> split at he
    · rename_i h1 h2; rw [h1, h2]
    · cases hd; exact absurd hde.symm (hn _ _ he)
    · cases he; exact absurd hde (hn _ _ hd)
    · rename_i h1 h2
      rw [if_neg h1] at hp
      rw [if_neg h2] at hq
      exact S.inj p q a b d e hp hq la lb hd he hde
  · intro p b hb
    simp only [AH.push, Tr.get_set] at hb
    split at hb
    · rename_i e
      subst e
      cases hb
      exact ⟨c, Mu.add_same _ _ _, hB⟩
    · rename_i e
      obtain ⟨d, h1, h2⟩ := S.at_ p b hb
      exact ⟨d, hle _ _ h1, h2.mono hle⟩
end
end Go.KX
namespace Go.KX
open Go.RowKit Go.KL

theorem slotsA_mem : ∀ {l : List AOd} {p : Pos}, AOd.t p ∈ l → p ∈ slotsA l
  | .t q :: l, p, h => by
    rcases List.mem_cons.1 h with h | h
    · cases h; simp [slotsA]
    · simp only [slotsA, List.mem_cons]; exact .inr (slotsA_mem h)
  | .c v :: l, p, h => by
    rcases List.mem_cons.1 h with h | h
    · cases h
    · show p ∈ slotsA l
      exact slotsA_mem h
/-- A frame of the machine that knows some slots alone. -/
noncomputable def rst (σ : Tr AV) : List Pos → Tr AV
  | [] => .e
  | p :: ps => (rst σ ps).set p (evA σ (.t p))
theorem rst_get (σ : Tr AV) : ∀ (ps : List Pos) (p : Pos), evA (rst σ ps) (.t p) = if p ∈ ps then evA σ (.t p) else u
  | [], p => by rw [if_neg (by simp)]; rfl
  | q :: ps, p => by
    show evA ((rst σ ps).set q (evA σ (.t q))) (.t p) = _
    rw [evA_t, Tr.get_set]
    by_cases e : p = q
    · subst e
      rw [if_pos rfl, if_pos (by simp)]
      rfl
    · rw [if_neg e, ← evA_t, rst_get σ ps p]
      simp [e]
open Classical in
noncomputable def rsl (σ : Env) (ps : List Pos) : Env := fun d => if ∃ p ∈ ps, p.nat - 1 = d then σ d else undef
theorem rst_env {μ : Mu} {σA : Tr AV} {σ : Env} {ps : List Pos} (h : ∀ p ∈ ps, Rv μ (evA σA (.t p)) (σ (p.nat - 1))) : EnvR μ (rst σA ps) (rsl σ ps) := by
  intro p
  rw [rst_get]
  unfold rsl
  by_cases hp : p ∈ ps
  · rw [if_pos hp, if_pos ⟨p, hp, rfl⟩]
    exact h p hp
  · rw [if_neg hp, if_neg]
    · exact rv_u μ
    · rintro ⟨q, hq, e⟩
      have h1 := q.nat_pos
      have h2 := p.nat_pos
      have : q = p := Pos.nat_inj (by omega)
      exact hp (this ▸ hq)
section
variable {tb : Tr AF} {ex exY : Run} {C : Chk} {P : Program} {μ : Mu} {σA : Tr AV} {σ : Env} {h h' : AH} {v : AV} {o : Oper} {a : AOp} {w : World}
theorem rst_op (hr : opY a tb ex exY σA h = some (v, h')) : opY a tb ex exY (rst σA (slotsA (opsA a))) h = some (v, h') := by
  rw [← hr]
  refine opY_congr a (fun x hx => ?_) h
  cases x with
  | t p => rw [rst_get, if_pos (slotsA_mem hx)]
  | c v => rfl
theorem rsl_run (hs : selects o = false) (hb : Sub a o) : execOp (ev (rsl σ (slotsA (opsA a)))) o = execOp (ev σ) o := by
  refine execOp_congr o (sel_ne hs) fun y hy => ?_
  cases y with
  | tmp t =>
    show rsl σ (slotsA (opsA a)) t = σ t
    unfold rsl
    rw [if_pos (hb t hy)]
  | _ => rfl
theorem rsl_runs (hs : selects o = false) (hb : Sub a o) {v : Value} {w' : World} : Runs P (rsl σ (slotsA (opsA a))) w o v w' ↔ Runs P σ w o v w' := by
  unfold Runs; rw [rsl_run hs hb]
/-- Registers alone. -/
theorem free_pure (hs : selects o = false) (hb : Sub a o) (hk : kdA a = 3) (hc : chkOp P a o.op = true) (hr : opY a tb ex exY σA h = some (v, h')) (hv : ∀ p ∈ slotsA (opsA a), Rv μ (evA σA (.t p)) (σ (p.nat - 1))) :
    ∃ cv, Rv μ v cv ∧ ∀ w, Runs P σ w o cv w := by
  obtain ⟨_, h2⟩ := okP_of (tb := tb) (ex := ex) (exY := exY) hk hc _ _ _ _ (rst_op hr)
  obtain ⟨cv, g1, g2⟩ := h2 μ _ (rst_env hv)
  exact ⟨cv, g1, fun w => (rsl_runs hs hb).1 (g2 o w rfl)⟩
/-- Memory, at a heap at which the machine looks at the same value. -/
theorem free_load (hs : selects o = false) (hb : Sub a o) (hk : kdA a = 1 ∨ kdA a = 3) (hc : chkOp P a o.op = true) (hr : opY a tb ex exY σA h = some (v, h')) (S : Sim C P μ h w) (hv : ∀ p ∈ slotsA (opsA a), Rv μ (evA σA (.t p)) (σ (p.nat - 1))) :
    ∃ cv, Rv μ v cv ∧ Runs P σ w o cv w := by
  obtain ⟨_, h2⟩ := okL_of (C := C) (tb := tb) (ex := ex) (exY := exY) hk hc _ _ _ _ (rst_op hr)
  obtain ⟨cv, g1, g2⟩ := h2 μ _ w (rst_env hv) S
  exact ⟨cv, g1, (rsl_runs hs hb).1 (g2 o rfl w (Keep.refl w _))⟩
theorem okA_of {op : Op} (hk : isAl a = true) (hc : chkOp P a op = true) : OkA C P op (opY a tb ex exY) := by
  cases a <;> first
    | (simp [isAl] at hk; done)
    | exact a_new hc | exact a_box hc | exact a_mkm hc | exact a_mks hc | exact a_blds hc
/-- An allocation. -/
theorem free_alloc (hs : selects o = false) (hb : Sub a o) (hk : isAl a = true) (hc : chkOp P a o.op = true) (hr : opY a tb ex exY σA h = some (v, h')) (hv : ∀ p ∈ slotsA (opsA a), Rv μ (evA σA (.t p)) (σ (p.nat - 1))) :
    ∃ (B : AB) (vf : Pos → AV) (ob : Obj) (val : Nat → Value), h' = h.push B ∧ v = vf h.nx ∧ live B ∧ (∀ w : World, Runs P σ w o (val w.heap.size) (w.alloc ob)) ∧
      (∀ μ' (w : World) b, μ.Le μ' → w.heap[b]? = some ob → AbR C P μ' w ⟨b, 0, g0⟩ B) ∧ ∀ μ' p b, μ' p = some ⟨b, 0, g0⟩ → Rv μ' (vf p) (val b) := by
  obtain ⟨B, vf, e1, e2, _, e4, e5⟩ := okA_of (C := C) (tb := tb) (ex := ex) (exY := exY) hk hc _ _ _ _ (rst_op hr)
  obtain ⟨ob, val, g1, g2, g3⟩ := e5 μ _ (rst_env hv) o rfl
  exact ⟨B, vf, ob, val, e1, e2, e4, fun w => (rsl_runs hs hb).1 (g1 w), g2, g3⟩
end
end Go.KX
namespace Go.KX
open Go.RowKit Go.KL

section
variable {tb : Tr AF} {ex exY : Run} {P : Program}
/-- One operation in the midst of a run. -/
theorem can_at {s t : List AO} {a : AO} {σ0 : Tr AV} {h0 : AH} {r : Tr AV × AH} (hr : runOps tb ex exY (s ++ a :: t) σ0 h0 = some r) :
    ∃ σ1 h1, runOps tb ex exY s σ0 h0 = some (σ1, h1) ∧
      ((wantA σ1 a.grd = true ∧ ∃ v h2, opK a.kd a.op tb ex exY σ1 h1 = some (v, h2) ∧ runOps tb ex exY t (putD a.dst σ1 v) h2 = some r) ∨
        (wantA σ1 a.grd = false ∧ runOps tb ex exY t (putD a.dst σ1 u) h1 = some r)) := by
  obtain ⟨σ1, h1, e1, e2⟩ := runOps_split s (a :: t) σ0 h0 r hr
  refine ⟨σ1, h1, e1, ?_⟩
  rw [runOps_cons] at e2
  cases hw : wantA σ1 a.grd with
  | true =>
    rw [hw] at e2
    simp only at e2
    cases hq : opK a.kd a.op tb ex exY σ1 h1 with
    | none => rw [hq] at e2; cases e2
    | some q =>
      rw [hq] at e2
      exact .inl ⟨rfl, q.1, q.2, rfl, e2⟩
  | false =>
    rw [hw] at e2
    exact .inr ⟨rfl, e2⟩
/-- What is done is closed: ancestors are done. -/
theorem anc_done {l : List Oper} {S : Nat → Bool} (hdc : ∀ k, k < l.length → S k = true → ∀ j ∈ prI l k, S j = true) {x i : Nat} (hp : ∀ j ∈ prI l i, S j = true) (h : AncP l x i) : S x = true := h S hdc hp
variable {N : Nat} {l : List Oper} {os s t : List AO} {a : AO} {σ0 σ1 σf : Tr AV} {h0 h1 hf : AH}
/-- Behind an operation its slot keeps the value. -/
theorem can_val (Z : ZOK P N l os) (e : os = s ++ a :: t) {v : AV} {σ2 : Tr AV} {h2 : AH} (hr : runOps tb ex exY t (putD a.dst σ2 v) h2 = some (σf, hf)) {p : Pos} (hp : a.dst = some p) : evA σf (.t p) = v := by
  rw [runOps_slot t _ _ _ _ hr p fun b hb => Z.wr s a t e p hp b (List.mem_append_right _ hb), putD_get, if_pos hp]
/-- What an operation looks at stays. -/
theorem can_rd (Z : ZOK P N l os) (e : os = s ++ a :: t) (hr : runOps tb ex exY (a :: t) σ1 h1 = some (σf, hf)) {p : Pos} (hp : p ∈ readsA a) : evA σf (.t p) = evA σ1 (.t p) :=
  runOps_slot (a :: t) _ _ _ _ hr p fun b hb => Z.rd s a t e p hp b hb
end
end Go.KX
