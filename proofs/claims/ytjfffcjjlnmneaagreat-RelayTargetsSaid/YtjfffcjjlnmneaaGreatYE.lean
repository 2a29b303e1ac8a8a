/- A function without parameters that is run in stages: between two of them what the machine holds is written down, without what is not needed any more. -/
import Derived.Test.YtjfffcjjlnmneaaGreatXM
namespace Go.KX
open Go.RowKit Go.KL

section
variable {P : Program} {tb : Tr AF} {n : Nat} {σ σ1 σ' : Tr AV} {h h1 h2 h' : AH} {e : Ex} {c c1 c2 : AC}
/-- What a code does where no round is under way. -/
def RunOK (P : Program) (c : AC) (σA : Tr AV) (h : AH) (e : Ex) (σA' : Tr AV) (h' : AH) : Prop := ∀ code N, chkC P N c code = true → ∀ (μ : Mu) (σ : Env) (w : World) (D : List Deferred) (n0 : Nat),
  Sim (CC P) P μ h w → EnvR μ σA σ → Mk μ w n0 D → n0 ≤ w.heap.size → CK none N P code (PostX P μ h.fl w n0 none D e σA' h') D σ w
theorem RunOK.exec (hm : P.follows .mixedOrders = true) (T : TabOK P tb) (hr : exec tb n false c σ h = some (e, σ', h')) : RunOK P c σ h e σ' h' :=
  fun code N hc μ σ w D n0 S hE M hn => (exec_ok hm T n false).1 _ _ _ _ _ _ hr code N hc none μ σ w D n0 rfl S hE M hn
theorem RunOK.seq (A : RunOK P c1 σ h .nrm σ1 h1) (B : RunOK P c2 σ1 h1 e σ' h') : RunOK P (.seq c1 c2) σ h e σ' h' := by
  intro code N hc μ σ w D n0 S hE M hn
  cases code <;> simp only [chkC, Bool.false_eq_true, Bool.and_eq_true] at hc
  refine CK.seq ((A _ N hc.1 μ σ w D n0 S hE M hn).mono ?_)
  rintro D' e' σ' w' ⟨rfl, μ1, q1, q2, q3, q4, q5, q6⟩
  refine (B _ N hc.2 μ1 σ' w' D' n0 q2 q3 q4 (Nat.le_trans hn q1.keep.size)).mono ?_
  intro D'' e'' σ'' w'' hp
  rw [q5] at hp
  exact PostX.trans q1 q6 hp
theorem RunOK.less (A : RunOK P c σ h2 e σ' h') (hs : ∀ p b, h2.m.get p = some b → h.m.get p = some b) (hn : h2.nx = h.nx) (hf : h2.fl = h.fl) : RunOK P c σ h e σ' h' := by
  intro code N hc μ σ w D n0 S hE M hn0
  rw [← hf]
  exact A code N hc μ σ w D n0 ⟨by rw [hn]; exact S.nx, S.lt, fun p q a b c d hp hq => S.inj p q a b c d (hs p a hp) (hs q b hq), fun p b hp => S.at_ p b (hs p b hp)⟩ hE M hn0

noncomputable def dropN : Nat → AC → AC
  | k + 1, .seq _ b => dropN k b
  | _, c => c
noncomputable def execN (tb : Tr AF) (n : Nat) : Nat → AC → Tr AV → AH → Option (Tr AV × AH)
  | 0, _, σ, h => some (σ, h)
  | k + 1, .seq a b, σ, h => match KX.exec tb n false a σ h with
    | some (.nrm, σ1, h1) => execN tb n k b σ1 h1
    | _ => none
  | _ + 1, _, _, _ => none
theorem execN_ok (hm : P.follows .mixedOrders = true) (T : TabOK P tb) : ∀ (k : Nat) (c : AC) (σ : Tr AV) (h : AH), execN tb n k c σ h = some (σ1, h1) → RunOK P (dropN k c) σ1 h1 e σ' h' → RunOK P c σ h e σ' h'
  | 0, c, σ, h, hr, B => by
    have hr : some (σ, h) = some (σ1, h1) := by simpa [execN] using hr
    cases hr
    have hd : dropN 0 c = c := by cases c <;> rfl
    rwa [hd] at B
  | k + 1, c, σ, h, hr, B => by
    cases c <;> first | (simp only [execN] at hr; cases hr; done) | skip
    rename_i a b
    rw [execN] at hr
    split at hr
    · rename_i σ2 h2 hq
      exact (RunOK.exec hm T hq).seq (execN_ok hm T k b σ2 h2 hr B)
    · cases hr

/-! ### What is written down -/
noncomputable def trSame : Tr AV → Tr AV → Bool
  | .e, .e => true
  | .n l v r, .n l' v' r' => (match v, v' with | none, none => true | some a, some b => same a b | _, _ => false) && (trSame l l' && trSame r r')
  | _, _ => false
theorem trSame_eq : ∀ {s t : Tr AV}, trSame s t = true → s = t
  | .e, .e, _ => rfl
  | .n l v r, .n l' v' r', hs => by
    simp only [trSame, Bool.and_eq_true] at hs
    obtain ⟨h1, h2, h3⟩ := hs
    rw [trSame_eq h2, trSame_eq h3]
    cases v <;> cases v' <;> simp only [Bool.false_eq_true] at h1
    · rfl
    · rw [same_eq h1]
  | .e, .n _ _ _, hs => by simp [trSame] at hs
  | .n _ _ _, .e, hs => by simp [trSame] at hs
noncomputable def abSame : AB → AB → Bool
  | .cells T l, .cells T' l' => Nat.beq T T' && sameL l l'
  | .row T s l, .row T' s' l' => Nat.beq T T' && (Nat.beq s s' && sameL l l')
  | _, _ => false
theorem abSame_eq {a b : AB} (hs : abSame a b = true) : a = b := by
  unfold abSame at hs
  split at hs
  · simp only [Bool.and_eq_true] at hs
    rw [Nat.eq_of_beq_eq_true hs.1, sameL_eq hs.2]
  · simp only [Bool.and_eq_true] at hs
    rw [Nat.eq_of_beq_eq_true hs.1, Nat.eq_of_beq_eq_true hs.2.1, sameL_eq hs.2.2]
  · cases hs
noncomputable def subTr : Tr AB → Tr AB → Bool
  | .e, _ => true
  | .n l v r, .n l' v' r' => (match v, v' with | none, _ => true | some a, some b => abSame a b | _, _ => false) && (subTr l l' && subTr r r')
  | _, _ => false
theorem subTr_get : ∀ {s t : Tr AB}, subTr s t = true → ∀ p b, s.get p = some b → t.get p = some b
  | .e, t, _, p, b, hg => by rw [Tr.get_e] at hg; cases hg
  | .n l v r, .n l' v' r', hs, p, b, hg => by
    simp only [subTr, Bool.and_eq_true] at hs
    obtain ⟨h1, h2, h3⟩ := hs
    cases p with
    | H =>
      rw [Tr.get_H] at hg ⊢
      subst hg
      cases v' <;> simp only [Bool.false_eq_true] at h1
      rw [abSame_eq h1]
    | O p => rw [Tr.get_O] at hg ⊢; exact subTr_get h2 p b hg
    | I p => rw [Tr.get_I] at hg ⊢; exact subTr_get h3 p b hg
  | .n _ _ _, .e, hs, _, _, _ => by simp [subTr] at hs
noncomputable def stg (tb : Tr AF) (n k : Nat) (c : AC) (σ : Tr AV) (h : AH) (σ1 : Tr AV) (h2 : AH) : Bool := match execN tb n k c σ h with
  | some (σ', h') => trSame σ' σ1 && (h2.nx.beq h'.nx && (h2.fl.beq h'.fl && subTr h2.m h'.m))
  | none => false
theorem stg_ok (hm : P.follows .mixedOrders = true) (T : TabOK P tb) (k : Nat) (hs : stg tb n k c σ h σ1 h2 = true) (B : RunOK P (dropN k c) σ1 h2 e σ' h') : RunOK P c σ h e σ' h' := by
  unfold stg at hs
  split at hs
  · rename_i σ2 h3 hq
    simp only [Bool.and_eq_true] at hs
    obtain ⟨g1, g2, g3, g4⟩ := hs
    have := trSame_eq g1
    subst this
    exact execN_ok hm T k c σ h hq (B.less (subTr_get g4) (Pos.beq_eq g2) (Pos.beq_eq g3))
  · cases hs
/-- The last stage: it returns b. -/
noncomputable def stgB (tb : Tr AF) (n : Nat) (c : AC) (σ : Tr AV) (h : AH) (rs : List AR) (b : Bool) : Bool := match KX.exec tb n false c σ h with
  | some (.ret, σ', h') => (match resA σ' h' rs with
    | some (.bool b', _) => b' == b
    | _ => false)
  | _ => false
theorem stgB_ok (hm : P.follows .mixedOrders = true) (T : TabOK P tb) {rs : List AR} {b : Bool} (hs : stgB tb n c σ h rs b = true) : ∃ σ' h' h3, RunOK P c σ h .ret σ' h' ∧ resA σ' h' rs = some (.bool b, h3) := by
  unfold stgB at hs
  split at hs
  · rename_i σ' h' hq
    split at hs
    · rename_i b' h3 hq2
      have := eq_of_beq hs
      subst this
      exact ⟨σ', h', h3, RunOK.exec hm T hq, hq2⟩
    · cases hs
  · cases hs
open Classical in
/-- A machine that knows one run. -/
noncomputable def oneRun (c0 : AC) (σ0 : Tr AV) (h0 : AH) (r : Ex × Tr AV × AH) : Run := fun c σ h => if c = c0 ∧ σ = σ0 ∧ h = h0 then some r else none
theorem run_stages (T : TabOK P tb) (f : Pos) (k : Nat) (hk : f.nat = k + 1) {af : AF} (hf : tb.get f = some af) {b : Bool} (hr : ∃ σ' h' h3, RunOK P af.body .e ⟨.e, .H, .H⟩ .ret σ' h' ∧ resA σ' h' af.res = some (.bool b, h3)) (w : World) :
    Gv P k [] w fun cv w' => cv = .bool b ∧ Keep w w' Non := by
  obtain ⟨σ', h', h3, R, hres⟩ := hr
  have HE : ExecOK P (oneRun af.body .e ⟨.e, .H, .H⟩ (.ret, σ', h')) false := by
    intro c σA h e σA' h1 hx code N hc rr μ σ w D n0 hrr S hE M hn
    unfold oneRun at hx
    split at hx
    · rename_i hq
      obtain ⟨rfl, rfl, rfl⟩ := hq
      cases hx
      have : rr = none := by cases rr <;> first | rfl | cases hrr
      subst this
      exact R code N hc μ σ w D n0 S hE M hn
    · cases hx
  have hcall : callW tb (oneRun af.body .e ⟨.e, .H, .H⟩ (.ret, σ', h')) f [] ⟨.e, .H, .H⟩ = some (.bool b, h3) := by
    unfold callW
    rw [hf]
    have hle : Nat.ble (len ([] : List AV)) af.n = true := by rw [Nat.ble_eq]; exact Nat.zero_le _
    simp only [hle]
    have hi : initA [] Pos.H .e = .e := rfl
    rw [hi]
    unfold oneRun
    rw [if_pos ⟨rfl, rfl, rfl⟩]
    exact hres
  obtain ⟨_, hg⟩ := call_of T HE f [] _ _ _ hcall
  have := hg _ w [] (Sim.empty _ _ w) rfl
  rw [hk] at this
  refine this.mono ?_
  rintro cv w' ⟨μ', h1, h2, h3, _⟩
  exact ⟨h3, h1.keep.weak fun i _ ⟨p, d, hp, _⟩ => by cases hp⟩
end
end Go.KX
