/- The machine's code and functions: what it computes, the model's program computes. -/
import Derived.Test.YtjfffcjjlnmneaaGreatYB
namespace Go.KX
open Go.RowKit Go.KL

def kdAt (i : Nat) : List AO → Nat
  | [] => 0
  | a :: os => match Nat.beq a.ix i with
    | true => a.kd
    | false => kdAt i os
/-- Whether an order is one of those in which the model may be ahead. -/
def lazyA (os : List AO) : Bool := os.any fun a => Nat.blt 3 a.kd
noncomputable def chkR (P : Program) (N : Nat) (os : List AO) (l : List Oper) (draw : Bool) : Bool :=
  let ks := (List.range l.length).map fun i => kdAt i os
  os.all (fun a => chkAO P N l a && Nat.beq (kOf ks a.ix) a.kd) && (match draw with
    | true => (match lazyA os with
      | true => os.all (fun a => Nat.blt a.kd 8) && chkZ l os
      | false => ordChk l ks (schOf os))
    | false => inOrder 0 (schOf os) l.length)
noncomputable def chkTs (N : Nat) : List Pos → List Nat → Bool
  | [], [] => true
  | t :: ts, p :: ps => (Nat.beq t.nat (p + 1) && Nat.blt p N) && chkTs N ts ps
  | _, _ => false
theorem chkTs_ok {N : Nat} : ∀ {ts : List Pos} {ps : List Nat}, chkTs N ts ps = true → ts.map Pos.nat = ps.map (· + 1) ∧ ∀ x ∈ ps, x < N
  | [], [], _ => by simp
  | t :: ts, p :: ps, h => by
    simp only [chkTs, Bool.and_eq_true, Nat.blt_eq] at h
    obtain ⟨⟨h1, h2⟩, h3⟩ := h
    obtain ⟨h4, h5⟩ := chkTs_ok h3
    refine ⟨by simp [h4, Nat.eq_of_beq_eq_true h1], ?_⟩
    intro x hx
    rcases List.mem_cons.1 hx with rfl | hx
    · exact h2
    · exact h5 x hx
  | [], _ :: _, h => by simp [chkTs] at h
  | _ :: _, [], h => by simp [chkTs] at h
theorem setL_env {μ : Mu} : ∀ {ts : List Pos} {ns : List Nat} {σA σB : Tr AV} {σ : Env} {as : List AV} {vs : List Value}, setL σA ts as = some σB → ts.map Pos.nat = ns.map (· + 1) → RvL μ as vs → EnvR μ σA σ → EnvR μ σB (updL σ ns vs) ∧ ns.length = vs.length
  | [], ns, σA, σB, σ, as, vs, hs, hn, hv, hE => by
    cases ns with
    | cons _ _ => simp at hn
    | nil =>
      cases as with
      | cons _ _ => simp [setL] at hs
      | nil => cases hv; simp only [setL, Option.some.injEq] at hs; subst hs; exact ⟨hE, rfl⟩
  | t :: ts, ns, σA, σB, σ, as, vs, hs, hn, hv, hE => by
    cases ns with
    | nil => simp at hn
    | cons n ns =>
      cases as with
      | nil => simp [setL] at hs
      | cons a as =>
        obtain ⟨v, ws, h1, h2, rfl⟩ := hv
        simp only [List.map_cons, List.cons.injEq] at hn
        have hp := hE.put (p := t) h1
        have e : t.nat - 1 = n := by omega
        rw [e] at hp
        obtain ⟨g1, g2⟩ := setL_env (ts := ts) (ns := ns) (σA := σA.set t a) (σ := upd σ n v) (by simpa [setL] using hs) hn.2 h2 hp
        exact ⟨g1, by simp [g2]⟩
noncomputable def chkC (P : Program) (N : Nat) : AC → Code → Bool
  | .skip, .skip => true
  | .skip, .label _ => true
  | .rg os, .region _ ops draw => chkR P N os ops.toList draw
  | .rl os, .region _ ops draw => draw && (os.all (fun a => chkAO P N ops.toList a) && chkZ ops.toList os)
  | .seq a b, .seq c d => chkC P N a c && chkC P N b d
  | .cond x a b, .cond y c d => chkD x y && (chkC P N a c && chkC P N b d)
  | .block i a, .block j c => Nat.beq i j && chkC P N a c
  | .loop a, .loop c => chkC P N a c
  | .scope a, .scope c => chkC P N a c
  | .rf g t asg body, .rangeFunc g' ps asg' body' => chkD g g' && (chkTs N t ps.toList && (chkC P N asg asg' && chkC P N body body'))
  | .exit i, .exit j => Nat.beq i j
  | .ret, .ret => true
  | _, _ => false
/-- The relation of codes that ranges over functions keep in memory. -/
def CC (P : Program) : Chk := fun a c N => chkC P N a c = true
section
variable {P : Program} {tb : Tr AF} {μ μ' μ'' : Mu} {w w' w'' : World} {h h' h'' : AH} {σ : Env} {σA : Tr AV}
/-- The marks of ranges over functions. -/
def Mk (μ : Mu) (w : World) (n0 : Nat) (D : List Deferred) : Prop := ∃ rbs : List Nat, D = rbs.map mark ∧ rbs.Nodup ∧ ∀ rb ∈ rbs, Dfr w rb ∧ n0 ≤ rb ∧ ∀ p c, μ p = some c → c.1 ≠ rb
theorem Mk.nil (μ : Mu) (w : World) (n0 : Nat) : Mk μ w n0 [] := ⟨[], rfl, by simp, by simp⟩
theorem Mk.ext {n0 fl : Nat} {D : List Deferred} (M : Mk μ w n0 D) (E : Ext μ fl w μ' w') : Mk μ' w' n0 D := by
  obtain ⟨rbs, h1, h2, h3⟩ := M
  refine ⟨rbs, h1, h2, fun rb hrb => ?_⟩
  obtain ⟨g1, g2, g3⟩ := h3 rb hrb
  refine ⟨g1.keep E.keep fun ⟨p, d, q1, q2, _⟩ => g3 p d q1 q2, g2, fun p c hp => ?_⟩
  rcases E.new p c hp with q | ⟨p', d, q1, q2, _⟩ | q
  · exact g3 p c q
  · rw [← q2]; exact g3 p' d q1
  · have := g1.lt; omega
def PostX (P : Program) (μ : Mu) (fl : Pos) (w : World) (n0 : Nat) (rr : Option Nat) (D : List Deferred) (e : Ex) (σA' : Tr AV) (h' : AH) : Post := fun D' e' σ' w' =>
  e' = exC e ∧ ∃ μ', Ext μ fl.nat w μ' w' ∧ Sim (CC P) P μ' h' w' ∧ EnvR μ' σA' σ' ∧ Mk μ' w' n0 D' ∧ h'.fl = fl ∧ (rr.isSome = true → D' = D)
def ExecOK (P : Program) (ex : Run) (r : Bool) : Prop := ∀ c σA h e σA' h', ex c σA h = some (e, σA', h') → ∀ code N, chkC P N c code = true → ∀ (rr : Option Nat) (μ : Mu) (σ : Env) (w : World) (D : List Deferred) (n0 : Nat),
  rr.isSome = r → Sim (CC P) P μ h w → EnvR μ σA σ → Mk μ w n0 D → n0 ≤ w.heap.size → CK rr N P code (PostX P μ h.fl w n0 rr D e σA' h') D σ w
/-- A loop that ends within so many rounds. -/
def LoopOK (P : Program) (ex : Run) (r : Bool) (m : Nat) : Prop := ∀ c σA h e σA' h', ex (.loop c) σA h = some (e, σA', h') → ∀ code N, chkC P N c code = true → ∀ (rr : Option Nat) (μ : Mu) (σ : Env) (w : World) (D : List Deferred) (n0 : Nat),
  rr.isSome = r → Sim (CC P) P μ h w → EnvR μ σA σ → Mk μ w n0 D → n0 ≤ w.heap.size → ∀ a, Rep N D a σ → Code.roundsIn (WF rr) 0 P code (liftQ N (PostX P μ h.fl w n0 rr D e σA' h')) m a w
theorem PostX.trans {fl : Pos} {n0 : Nat} {rr : Option Nat} {D D1 D' : List Deferred} {e : Ex} {e' : Exit} {σA' : Tr AV} {σ' : Env} (E : Ext μ fl.nat w μ' w') (hD : rr.isSome = true → D1 = D) (hP : PostX P μ' fl w' n0 rr D1 e σA' h' D' e' σ' w'') : PostX P μ fl w n0 rr D e σA' h' D' e' σ' w'' := by
  obtain ⟨h1, μ2, h2, h3, h4, h5, h6, h7⟩ := hP
  exact ⟨h1, μ2, E.trans h2, h3, h4, h5, h6, fun hr => (h7 hr).trans (hD hr)⟩
theorem rounds_mono {F : Fence} {n : Nat} {c : Code} {Q Q' : Exit → Act → World → Prop} (hQ : ∀ e a w, Q e a w → Q' e a w) : ∀ (m : Nat) (a : Act) (w : World), Code.roundsIn F n P c Q m a w → Code.roundsIn F n P c Q' m a w
  | 0, _, _, h => h.elim
  | m + 1, a, w, h => by
    rw [roundsIn_succ] at h ⊢
    refine wpIn_mono h fun e a w q => ?_
    cases e with
    | normal => exact rounds_mono hQ m a w q
    | _ => exact hQ _ _ _ q
theorem Ext.drew (μ : Mu) (fl : Nat) (w : World) : Ext μ fl w μ { w with drawn := w.drawn + 1 } := ⟨Mu.Le.refl μ, fun _ _ h => .inl h, (Keep.drew w).weak fun _ _ h => h.elim⟩
theorem Sim.keepX {C : Chk} {X : Nat → Prop} (S : Sim C P μ h w) (K : Keep w w' X) (hX : ∀ p c, μ p = some c → ¬ X c.1) : Sim C P μ h w' :=
  ⟨S.nx, fun p c hp => Nat.lt_of_lt_of_le (S.lt p c hp) K.size, S.inj, fun p b hb => let ⟨c, h1, h2⟩ := S.at_ p b hb; ⟨c, h1, h2.keep K (hX p c h1)⟩⟩

/-! ### Functions -/
noncomputable def chkRes (P : Program) : List AR → List ResultVar → Bool
  | [], [] => true
  | .t p :: l, .tmp t :: k => Nat.beq p.nat (t + 1) && chkRes P l k
  | .c p n :: l, .cell a t :: k => Nat.beq p.nat (a + 1) && ((match n with | none => aggT P t false | some n => aggT P t true && szT P t n) && chkRes P l k)
  | _, _ => false
noncomputable def chkF (P : Program) (k : Nat) (af : AF) : Bool := match P.funcs[k]? with
  | none => false
  | some fn => match fn.body with
    | none => false
    | some c => Nat.beq fn.ntmps af.n && (chkRes P af.res fn.results.toList && (!(fn.name == "runtime.NumGoroutine") && chkC P fn.ntmps af.body c))
theorem ress_ok {C : Chk} (hE : EnvR μ σA σ) (S : Sim C P μ h w) : ∀ {l : List AR} {k : List ResultVar} {vs : List AV}, chkRes P l k = true → ress σA h l = some vs → ∃ VS, RvL μ vs VS ∧ ResL P w σ k VS
  | [], [], vs, _, hr => by simp only [ress] at hr; cases hr; exact ⟨[], rfl, trivial⟩
  | .t p :: l, .tmp t :: k, vs, hc, hr => by
    simp only [chkRes, Bool.and_eq_true] at hc
    simp only [ress, res1] at hr
    split at hr
    · rename_i vs' hvs
      cases hr
      obtain ⟨VS, g1, g2⟩ := ress_ok hE S hc.2 hvs
      have e := Nat.eq_of_beq_eq_true hc.1
      have g := hE p
      rw [e] at g
      exact ⟨_, rvL_cons g g1, rfl, g2⟩
    · cases hr
  | .c p n :: l, .cell a t :: k, vs, hc, hr => by
    simp only [chkRes, Bool.and_eq_true] at hc
    obtain ⟨c1, c2, c3⟩ := hc
    have e := Nat.eq_of_beq_eq_true c1
    have g := hE p
    rw [e] at g
    rw [ress] at hr
    split at hr
    · rename_i v hv
      split at hr
      · rename_i vs' hvs
        cases hr
        obtain ⟨VS, g1, g2⟩ := ress_ok hE S c3 hvs
        simp only [res1] at hv
        split at hv
        · rename_i b off hb
          split at hv
          · rename_i cl hcl
            obtain ⟨c, ws, q1, q2, q3⟩ := cellsAt_ok hcl S
            rw [hb] at g
            obtain ⟨c', k1, k2⟩ := g
            rw [q1] at k1; cases k1
            have k2 : σ a = .pointer (some ⟨c.1, off, none⟩) := k2
            split at hv
            · rw [nth_eq] at hv
              obtain ⟨cv, r1, r2⟩ := rvL_get q2 hv
              refine ⟨_, rvL_cons r2 g1, ⟨_, k2, ?_⟩, g2⟩
              simp [loadVar, aggT_ok c2, load, Sem.run, q3 w (Keep.refl w _) _ _ r1]
            · rename_i n
              simp only [Bool.and_eq_true] at c2
              obtain ⟨r, hr3, rfl⟩ := optAgg_some hv
              obtain ⟨r1, r2⟩ := rvL_sub hr3 q2
              refine ⟨_, rvL_cons ⟨_, r1, rfl⟩ g1, ⟨_, k2, ?_⟩, g2⟩
              have := KL.run_loadCells (P := P) (w := w) (b := c.1) (off := off) (n := n) ((ws.drop off).take n) (by simp; omega) fun j u hu => q3 w (Keep.refl w _) _ _ (sub_cells rfl j u hu)
              simp [loadVar, aggT_ok c2.1, szT_ok c2.2, this]
          · cases hv
        · cases hv
      · cases hr
    · cases hr
  | [], _ :: _, _, hc, _ => by simp [chkRes] at hc
  | .t _ :: _, [], _, hc, _ => by simp [chkRes] at hc
  | .c _ _ :: _, [], _, hc, _ => by simp [chkRes] at hc
  | .t _ :: _, .cell _ _ :: _, _, hc, _ => by simp [chkRes] at hc
  | .c _ _ :: _, .tmp _ :: _, _, hc, _ => by simp [chkRes] at hc
theorem resA_ok {C : Chk} {l : List AR} {rs : Array ResultVar} {v : AV} (hE : EnvR μ σA σ) (S : Sim C P μ h w) (hc : chkRes P l rs.toList = true) (hr : resA σA h l = some (v, h')) : h' = h ∧ ∃ cv, Rv μ v cv ∧ (resRun rs σ).run P w = .ok cv w := by
  unfold resA at hr
  split at hr
  · rename_i vs hvs
    cases hr
    refine ⟨rfl, ?_⟩
    obtain ⟨VS, g1, g2⟩ := ress_ok hE S hc hvs
    have hrs : rs = rs.toList.toArray := by simp
    unfold tupA
    split
    · rename_i v
      obtain ⟨cv, ws, q1, q2, q3⟩ := g1
      cases q2
      subst q3
      refine ⟨cv, q1, ?_⟩
      have hl : ∃ r, rs = #[r] := by
        cases hq : rs.toList with
        | nil => rw [hq] at g2; exact g2.elim
        | cons r k =>
          cases k with
          | nil => exact ⟨r, Array.ext' (by simpa using hq)⟩
          | cons r' k => rw [hq] at g2; cases r <;> cases r' <;> exact g2.2.elim
      obtain ⟨r, rfl⟩ := hl
      exact resL1 g2
    · rename_i hne
      refine ⟨_, ⟨VS, g1, rfl⟩, ?_⟩
      rw [hrs]
      refine resLn g2 ?_
      have hl := rvL_len g1
      cases hb : VS.length == 1 with
      | false => rfl
      | true =>
        have : vs.length = 1 := by rw [← hl]; exact eq_of_beq hb
        obtain ⟨v, hv⟩ := List.length_eq_one_iff.1 this
        exact absurd hv (hne v)
  · cases hr
/-- All functions of the table are the program's. -/
def TabOK (P : Program) (tb : Tr AF) : Prop := ∀ p af, tb.get p = some af → chkF P (p.nat - 1) af = true
theorem call_of (T : TabOK P tb) {ex : Run} (HE : ExecOK P ex false) : CallOK (CC P) P tb ex := by
  intro f args h v h' hr
  unfold callW at hr
  split at hr
  · rename_i af haf
    have hcf := T f af haf
    unfold chkF at hcf
    split at hcf
    · cases hcf
    · rename_i fn hfn
      split at hcf
      · cases hcf
      · rename_i c hbody
        simp only [Bool.and_eq_true, Bool.not_eq_true'] at hcf
        obtain ⟨c1, c2, c3, c4⟩ := hcf
        refine ⟨fun a w => ?_, fun μ w vs S hv => ?_⟩
        · have c3' : ¬ fn.name = "runtime.NumGoroutine" := by simpa using c3
          simp [callFunc, program, Sem.run, hfn, hbody, c3']
        · split at hr
          · rename_i hle
            have hle := Nat.le_of_ble_eq_true hle
            have e1 := Nat.eq_of_beq_eq_true c1
            have key : ∀ e σA' h1, ex af.body (initA args .H .e) h = some (e, σA', h1) → (e = .nrm ∨ e = .ret) → resA σA' h1 af.res = some (v, h') → Gv P (f.nat - 1) vs w fun cv w' => ∃ μ', Ext μ h.fl.nat w μ' w' ∧ Sim (CC P) P μ' h' w' ∧ Rv μ' v cv ∧ h'.fl = h.fl := by
              intro e σA' h1 hx he hres
              refine Gv.ofM hfn hbody rfl rfl (by rw [rvL_len hv, ← len_eq, e1]; exact hle) ?_
              refine (HE _ _ _ _ _ _ hx c fn.ntmps c4 none μ (init vs) w [] w.heap.size rfl S (init_ok hv) (Mk.nil μ w _) (Nat.le_refl _)).mono ?_
              rintro D' e' σ' w' ⟨rfl, μ', q1, q2, q3, q4, q5, _⟩
              obtain ⟨rbs, m1, m2, m3⟩ := q4
              have fin : ∃ rbs : List Nat, D' = rbs.map mark ∧ rbs.Nodup ∧ (∀ rb ∈ rbs, Dfr w' rb) ∧ ∀ w2, Keep w' w2 (· ∈ rbs) → w2.heap.size = w'.heap.size → ∃ cv, (resRun fn.results σ').run P w2 = .ok cv w2 ∧ ∃ μ', Ext μ h.fl.nat w μ' w2 ∧ Sim (CC P) P μ' h' w2 ∧ Rv μ' v cv ∧ h'.fl = h.fl := by
                refine ⟨rbs, m1, m2, fun rb hrb => (m3 rb hrb).1, fun w2 K hs => ?_⟩
                have S2 := q2.keepX K fun p c hp hm => (m3 _ hm).2.2 p c hp rfl
                obtain ⟨rfl, cv, r1, r2⟩ := resA_ok q3 S2 c2 hres
                refine ⟨cv, r2, μ', ⟨q1.mono, q1.new, ?_⟩, S2, r1, q5⟩
                exact q1.keep.step K fun i hi hm => absurd (m3 i hm).2.1 (Nat.not_le.2 hi)
              rcases he with rfl | rfl
              · exact fin
              · exact fin
            split at hr
            · exact key _ _ _ (by assumption) (.inl rfl) hr
            · exact key _ _ _ (by assumption) (.inr rfl) hr
            · cases hr
          · cases hr
  · cases hr
theorem yield_of {ex : Run} (HE : ExecOK P ex true) : YieldOK (CC P) P ex := by
  intro b args h v h' hr
  unfold yieldW at hr
  split at hr
  · rename_i σA t asg body hB
    intro μ w xv c S hx hc
    split at hr <;> first | (cases hr; done) | skip
    rename_i σS hset
    split at hr <;> first | (cases hr; done) | skip
    rename_i σ1 h1 hasg
    split at hr <;> first | (cases hr; done) | skip
    rename_i σx tx ax bx hB1
    split at hr <;> first | (cases hr; done) | skip
    rename_i h2 hput2
    split at hr <;> first | (cases hr; done) | skip
    rename_i e σ3 h3 hbody
    split at hr <;> first | (cases hr; done) | skip
    rename_i σy ty ay by_ hB3
    split at hr <;> first | (cases hr; done) | skip
    rename_i h4 hput4
    cases hr
    obtain ⟨c', g1, g2⟩ := S.at_ b _ hB
    rw [hc] at g1; cases g1
    have L : LoopR (CC P) μ w c σA t asg body .ready := g2
    obtain ⟨hSE, hSl⟩ := setL_env hset L.ht hx L.env
    refine Yd.of L.at_ L.tN hSl fun σ0 hσ0 => ?_
    have hE0 : EnvR μ σS σ0 := by
      intro p
      rw [hσ0]; exact hSE p
    refine (HE _ _ _ _ _ _ hasg c.g.ac c.g.N L.asg (some c.1) μ σ0 w [] 0 rfl S hE0 (Mk.nil μ w _) (Nat.zero_le _)).mono ?_
    rintro D' e' σ' w1 ⟨rfl, μ1, q1, q2, q3, q4, q5, q6⟩
    have hc1 := q1.mono b c hc
    obtain ⟨c', r1, r2⟩ := q2.at_ b _ hB1
    rw [hc1] at r1; cases r1
    have L1 : LoopR (CC P) μ1 w1 c σx tx ax bx .ready := r2
    refine ⟨rfl, q6 rfl, L1.at_, fun w2 hl2 K hs => ?_⟩
    obtain ⟨s1, s2, s3⟩ := q2.put hput2 hB1 trivial hc1 K (B' := .loop σA t asg body .busy) ⟨hl2, L.env.mono q1.mono, L.ht, L.tN, L.asg, L.body⟩
    rw [q5] at s2 s3
    refine (HE _ _ _ _ _ _ hbody c.g.bc c.g.N L.body (some c.1) μ1 σ' w2 [] 0 rfl s1 q3 (Mk.nil μ1 w2 _) (Nat.zero_le _)).mono ?_
    rintro D'' e'' σ'' w3 ⟨rfl, μ3, t1, t2, t3, t4, t5, t6⟩
    rw [s3] at t1 t5
    have hc3 := t1.mono b c hc1
    obtain ⟨c', u1, u2⟩ := t2.at_ b _ hB3
    rw [hc3] at u1; cases u1
    have L3 : LoopR (CC P) μ3 w3 c σy ty ay by_ .busy := u2
    have fin : ∀ w4, LoopAt w4 c.1 c.g.N c.g.σ c.g.t c.g.ac c.g.bc c.g.rb c.g.fn (lsC e.done).1 (lsC e.done).2 → Keep w3 w4 (· = c.1) → ∃ μ', Ext μ h.fl.nat w μ' w4 ∧ Sim (CC P) P μ' h' w4 ∧ AV.bool e.go = .bool e.go ∧ h'.fl = h.fl := by
      intro w4 hl4 K4
      obtain ⟨v1, v2, v3⟩ := t2.put hput4 hB3 trivial hc3 K4 (B' := .loop σA t asg body e.done) ⟨hl4, (L.env.mono q1.mono).mono t1.mono, L.ht, L.tN, L.asg, L.body⟩
      rw [t5] at v2 v3
      exact ⟨μ3, (q1.trans s2).trans (t1.trans v2), v1, rfl, v3⟩
    cases e with
    | nrm => exact ⟨L3.at_, fun w4 hl K4 _ => fin w4 hl K4⟩
    | ret => exact ⟨L3.at_, fun w4 hl K4 _ => fin w4 hl K4⟩
    | exit i => exact ⟨L3.at_, fun w4 hl K4 _ => fin w4 hl K4⟩
  · cases hr
end
end Go.KX
