/- The machine is right: by induction on its fuel. -/
import Derived.Test.YtjfffcjjlnmneaaGreatYD
namespace Go.KX
open Go.RowKit Go.KL
section
variable {P : Program} {tb : Tr AF}
theorem region_ok (hm : P.follows .mixedOrders = true) {ex exY : Run} (HC : CallOK (CC P) P tb ex) (HY : YieldOK (CC P) P exY) (FE : FrX ex) (FY : FrX exY) {os : List AO} {σA σA' : Tr AV} {h h' : AH} (hr : runOps tb ex exY os σA h = some (σA', h')) {id N : Nat} {ops : Array Oper} {draw : Bool} (hc : chkR P N os ops.toList draw = true)
    {rr : Option Nat} {μ : Mu} {σ : Env} {w : World} {D : List Deferred} {n0 : Nat} (S : Sim (CC P) P μ h w) (hE : EnvR μ σA σ) (M : Mk μ w n0 D) : CK rr N P (.region id ops draw) (PostX P μ h.fl w n0 rr D .nrm σA' h') D σ w := by
  unfold chkR at hc
  simp only [Bool.and_eq_true, List.all_eq_true] at hc
  obtain ⟨c1, c2⟩ := hc
  have hop : ops = ops.toList.toArray := by simp
  have hcs : ∀ a ∈ os, chkAO P N ops.toList a = true ∧ kOf ((List.range ops.toList.length).map fun i => kdAt i os) a.ix = a.kd := fun a ha => ⟨(c1 a ha).1, Nat.eq_of_beq_eq_true (c1 a ha).2⟩
  have post : ∀ {w0 : World}, Ext μ h.fl.nat w μ w0 → Sim (CC P) P μ h w0 → OKS N P ops.toList (PostX P μ h.fl w n0 rr D .nrm σA' h') D ((List.range ops.toList.length).map fun i => kdAt i os) (schOf os) σ w0 := by
    intro w0 E0 S0
    refine ops_ok HC HY os σA h σA' h' hr hcs μ σ w0 S0 hE fun μ' w' σ' q1 q2 q3 q4 => ?_
    have E := E0.trans q1
    exact ⟨rfl, μ', E, q2, q3, M.ext E, q4, fun _ => rfl⟩
  rw [hop]
  cases draw with
  | true =>
    simp only at c2
    split at c2
    · simp only [Bool.and_eq_true, List.all_eq_true, Nat.blt_eq] at c2
      exact CK.lazy hm HC HY FE FY (chkZ_ok (fun a ha => (c1 a ha).1) c2.2) (lck_triv c2.1) hr S hE fun μ' w' σ' q1 q2 q3 q4 => ⟨rfl, μ', q1, q2, q3, M.ext q1, q4, fun _ => rfl⟩
    · exact CK.anyOrd hm _ _ c2 (post (Ext.drew μ _ w) (S.keep (Keep.drew w)))
  | false => exact CK.reg _ c2 (post (Ext.refl μ _ w) S)
theorem range_ok {ex : Run} (HC : CallOK (CC P) P tb ex) {g : AOd} {t : List Pos} {asg body : AC} {g' : Operand} {ps : Array Tmp} {asg' body' : Code} {N : Nat} (hc : chkC P N (.rf g t asg body) (.rangeFunc g' ps asg' body') = true)
    {σA σA' : Tr AV} {h h' : AH} {e : Ex} (hr : sRf true g t asg body tb ex σA h = some (e, σA', h')) {μ : Mu} {σ : Env} {w : World} {D : List Deferred} {n0 : Nat} (S : Sim (CC P) P μ h w) (hE : EnvR μ σA σ) (M : Mk μ w n0 D) (hn : n0 ≤ w.heap.size) :
    CK none N P (.rangeFunc g' ps asg' body') (PostX P μ h.fl w n0 none D e σA' h') D σ w := by
  simp only [chkC, Bool.and_eq_true] at hc
  obtain ⟨c1, c2, c3, c4⟩ := hc
  obtain ⟨p, rfl⟩ : ∃ p : List Nat, ps = p.toArray := ⟨ps.toList, by simp⟩
  · obtain ⟨ht, c6⟩ := chkTs_ok (by simpa using c2)
    unfold sRf at hr
    split at hr
    · rename_i f fi ca hg
      have hx := chkD_ok c1 hE
      rw [hg] at hx
      obtain ⟨fv, cv, g1, g2, g3⟩ := hx
      split at hr <;> first | (cases hr; done) | skip
      rename_i rv h2 hcall
      obtain ⟨hcf, hgv⟩ := HC _ _ _ _ _ hcall
      refine CK.rangeFunc (t := p) g3 hcf fun fn l rb w1 e1 e2 hl hd K hs => ?_
      subst e1 e2
      have hle := Mu.add_le (c := (⟨w.heap.size + 1, 0, ⟨N, σ, p, asg', body', w.heap.size, fn⟩⟩ : Cl)) (S.nx h.nx (Nat.le_refl _))
      obtain ⟨s1, s2, s3, s4⟩ := S.push (w' := w1) (c := ⟨w.heap.size + 1, 0, ⟨N, σ, p, asg', body', w.heap.size, fn⟩⟩) (B := .loop σA t asg body .ready) K (Nat.le_succ _) (by show w.heap.size + 1 < _; omega) ⟨hl, hE.mono hle, ht, c6, c3, c4⟩
      generalize hμ1 : μ.add h.nx (⟨w.heap.size + 1, 0, ⟨N, σ, p, asg', body', w.heap.size, fn⟩⟩ : Cl) = μ1 at *
      have M1 : Mk μ1 w1 n0 (mark w.heap.size :: D) := by
        have M' := M.ext s2
        obtain ⟨rbs, m1, m2, m3⟩ := M'
        have hold : ∀ rb ∈ rbs, rb < w.heap.size := by
          obtain ⟨rbs0, k1, k2, k3⟩ := M
          intro rb hrb
          have hmm : rbs.map mark = rbs0.map mark := by rw [← m1, ← k1]
          have hinj : rbs = rbs0 := by
            have : ∀ (a b : List Nat), a.map mark = b.map mark → a = b := by
              intro a
              induction a with
              | nil => intro b hb; cases b with
                | nil => rfl
                | cons _ _ => simp at hb
              | cons x a ih => intro b hb; cases b with
                | nil => simp at hb
                | cons y b =>
                  simp only [List.map_cons, List.cons.injEq] at hb
                  have hxy : x = y := by have := hb.1; simp [mark] at this; exact this
                  rw [hxy, ih b hb.2]
            exact this _ _ hmm
          exact (k3 rb (hinj ▸ hrb)).1.lt
        refine ⟨w.heap.size :: rbs, by rw [List.map_cons, ← m1], List.nodup_cons.2 ⟨fun hm => absurd (hold _ hm) (Nat.lt_irrefl _), m2⟩, fun rb hrb => ?_⟩
        rcases List.mem_cons.1 hrb with rfl | hrb
        · refine ⟨hd, hn, fun q c hq => ?_⟩
          rw [← hμ1] at hq
          unfold Mu.add at hq
          split at hq
          · cases hq; show w.heap.size + 1 ≠ _; omega
          · have := S.lt q c hq; omega
        · exact m3 rb hrb
      have G := hgv μ1 w1 (fv ++ (.func (.yield (w.heap.size + 1)) #[] #[] :: cv)) s1 (rvL_app (g1.mono s2.mono) (rvL_cons ⟨_, s4, rfl⟩ (g2.mono s2.mono)))
      rw [List.append_assoc]
      refine G.mono ?_
      rintro v3 w3 ⟨μ3, q1, q2, q3, q4⟩
      rw [s3] at q1 q4
      have E13 := s2.trans q1
      have hc3 := q1.mono _ _ s4
      have fin : ∀ {B : AB} {h3 : AH} (w4 : World), h2.m.get h.nx = some B → live B → h2.put h.nx .dead = some h3 → Keep w3 w4 (· = w.heap.size + 1) → w4.heap.size = w3.heap.size → ∃ μ', Ext μ h.fl.nat w μ' w4 ∧ Sim (CC P) P μ' h3 w4 ∧ EnvR μ' σA σ ∧ Mk μ' w4 n0 (mark w.heap.size :: D) ∧ h3.fl = h.fl := by
        intro B h3 w4 hB hlv hput K4 _
        obtain ⟨v1, v2, v3⟩ := q2.put hput hB hlv hc3 K4 (B' := .dead) trivial
        rw [q4] at v2 v3
        exact ⟨μ3, E13.trans v2, v1, hE.mono E13.mono, (M1.ext q1).ext v2, v3⟩
      split at hr
      · rename_i sx tx ax bx hB
        split at hr <;> first | (cases hr; done) | skip
        rename_i h3 hput
        cases hr
        obtain ⟨c', u1, u2⟩ := q2.at_ _ _ hB
        rw [hc3] at u1; cases u1
        have L3 : LoopR (CC P) μ3 w3 ⟨w.heap.size + 1, 0, ⟨N, σ, p, asg', body', w.heap.size, fn⟩⟩ sx tx ax bx .ready := u2
        refine .inl ⟨L3.at_, fun w4 K4 hs4 => ?_⟩
        obtain ⟨μ', a1, a2, a3, a4, a5⟩ := fin w4 hB trivial hput K4 hs4
        exact ⟨rfl, μ', a1, a2, a3, a4, a5, fun hq => by cases hq⟩
      · rename_i sx tx ax bx ee hB
        split at hr <;> first | (cases hr; done) | skip
        rename_i h3 hput
        cases hr
        obtain ⟨c', u1, u2⟩ := q2.at_ _ _ hB
        rw [hc3] at u1; cases u1
        have L3 : LoopR (CC P) μ3 w3 ⟨w.heap.size + 1, 0, ⟨N, σ, p, asg', body', w.heap.size, fn⟩⟩ sx tx ax bx (.done e) := u2
        cases e with
        | nrm =>
          refine .inl ⟨L3.at_, fun w4 K4 hs4 => ?_⟩
          obtain ⟨μ', a1, a2, a3, a4, a5⟩ := fin w4 hB trivial hput K4 hs4
          exact ⟨rfl, μ', a1, a2, a3, a4, a5, fun hq => by cases hq⟩
        | ret =>
          refine .inr ⟨.ret, .inl rfl, L3.at_, fun w4 K4 hs4 => ?_⟩
          obtain ⟨μ', a1, a2, a3, a4, a5⟩ := fin w4 hB trivial hput K4 hs4
          exact ⟨rfl, μ', a1, a2, a3, a4, a5, fun hq => by cases hq⟩
        | exit i =>
          refine .inr ⟨.exit i, .inr ⟨i, rfl⟩, L3.at_, fun w4 K4 hs4 => ?_⟩
          obtain ⟨μ', a1, a2, a3, a4, a5⟩ := fin w4 hB trivial hput K4 hs4
          exact ⟨rfl, μ', a1, a2, a3, a4, a5, fun hq => by cases hq⟩
      · cases hr
    · cases hr
theorem CK.ofRounds {rr : Option Nat} {N : Nat} {c : Code} {Q : Post} {D : List Deferred} {σ : Env} {w : World} (m : Nat) (hh : ∀ a, Rep N D a σ → Code.roundsIn (WF rr) 0 P c (liftQ N Q) m a w) : CK rr N P (.loop c) Q D σ w :=
  fun a ha => wpIn_loop_rounds m (hh a ha)
theorem seq_ok {exR : Run} {r : Bool} (HE : ExecOK P exR r) {a b : AC} {σA σA' : Tr AV} {h h' : AH} {e : Ex} (hr : sSeq a b exR σA h = some (e, σA', h')) {c d : Code} {N : Nat} (hc1 : chkC P N a c = true) (hc2 : chkC P N b d = true)
    {rr : Option Nat} {μ : Mu} {σ : Env} {w : World} {D : List Deferred} {n0 : Nat} (hrr : rr.isSome = r) (S : Sim (CC P) P μ h w) (hE : EnvR μ σA σ) (M : Mk μ w n0 D) (hn : n0 ≤ w.heap.size) : CK rr N P (.seq c d) (PostX P μ h.fl w n0 rr D e σA' h') D σ w := by
  obtain ⟨⟨e1, σ1, h1⟩, ha, hb⟩ := optR hr
  rw [seqK_eq] at hb
  refine CK.seq ((HE _ _ _ _ _ _ ha c N hc1 rr μ σ w D n0 hrr S hE M hn).mono ?_)
  intro D' e' σ' w' hp
  obtain ⟨rfl, μ1, q1, q2, q3, q4, q5, q6⟩ := hp
  cases e1 with
  | nrm =>
    refine (HE _ _ _ _ _ _ hb d N hc2 rr μ1 σ' w' D' n0 hrr q2 q3 q4 (Nat.le_trans hn q1.keep.size)).mono ?_
    intro D'' e'' σ'' w'' hp
    rw [q5] at hp
    exact PostX.trans q1 q6 hp
  | ret => cases hb; exact ⟨rfl, μ1, q1, q2, q3, q4, q5, q6⟩
  | exit i => cases hb; exact ⟨rfl, μ1, q1, q2, q3, q4, q5, q6⟩
theorem loop_ok {exR : Run} {r : Bool} {m : Nat} (HE : ExecOK P exR r) (HL : LoopOK P exR r m) {a : AC} {σA σA' : Tr AV} {h h' : AH} {e : Ex} (hr : sLoop a exR σA h = some (e, σA', h')) {c : Code} {N : Nat} (hc : chkC P N a c = true)
    {rr : Option Nat} {μ : Mu} {σ : Env} {w : World} {D : List Deferred} {n0 : Nat} (hrr : rr.isSome = r) (S : Sim (CC P) P μ h w) (hE : EnvR μ σA σ) (M : Mk μ w n0 D) (hn : n0 ≤ w.heap.size) : ∀ act, Rep N D act σ → Code.roundsIn (WF rr) 0 P c (liftQ N (PostX P μ h.fl w n0 rr D e σA' h')) (m + 1) act w := by
  obtain ⟨⟨e1, σ1, h1⟩, ha, hb⟩ := optR hr
  rw [seqK_eq] at hb
  intro act hact
  rw [roundsIn_succ]
  refine wpIn_mono (HE _ _ _ _ _ _ ha c N hc rr μ σ w D n0 hrr S hE M hn act hact) ?_
  rintro e' act' w' ⟨σ', D', hrep, hp⟩
  obtain ⟨rfl, μ1, q1, q2, q3, q4, q5, q6⟩ := hp
  cases e1 with
  | nrm =>
    refine rounds_mono ?_ m act' w' (HL _ _ _ _ _ _ hb c N hc rr μ1 σ' w' D' n0 hrr q2 q3 q4 (Nat.le_trans hn q1.keep.size) act' hrep)
    rintro e'' act'' w'' ⟨σ'', D'', hrep', hp⟩
    rw [q5] at hp
    exact ⟨σ'', D'', hrep', PostX.trans q1 q6 hp⟩
  | ret => cases hb; exact ⟨σ', D', hrep, rfl, μ1, q1, q2, q3, q4, q5, q6⟩
  | exit i => cases hb; exact ⟨σ', D', hrep, rfl, μ1, q1, q2, q3, q4, q5, q6⟩
theorem exec_ok (hm : P.follows .mixedOrders = true) (T : TabOK P tb) : ∀ (n : Nat) (r : Bool), ExecOK P (exec tb n r) r ∧ LoopOK P (exec tb n r) r n := by
  intro n
  induction n with
  | zero => intro r; exact ⟨fun c σA h e σA' h' hr => (by cases hr), fun c σA h e σA' h' hr => (by cases hr)⟩
  | succ n ih =>
    intro r
    have HC := call_of T (ih false).1
    have HY := yield_of (P := P) (ih true).1
    obtain ⟨HE, HL⟩ := ih r
    have loop : LoopOK P (exec tb (n + 1) r) r (n + 1) := by
      intro c σA h e σA' h' hr code N hc rr μ σ w D n0 hrr S hE M hn
      have hr : sLoop c (exec tb n r) σA h = some (e, σA', h') := hr
      exact loop_ok HE HL hr hc hrr S hE M hn
    refine ⟨?_, loop⟩
    intro c σA h e σA' h' hr code N hc rr μ σ w D n0 hrr S hE M hn
    rw [exec_succ] at hr
    cases c with
    | skip =>
      have hr : sNrm σA h = some (e, σA', h') := hr
      cases hr
      have fin : PostX P μ h.fl w n0 rr D .nrm σA h D .normal σ w := ⟨rfl, μ, Ext.refl μ _ w, S, hE, M, rfl, fun _ => rfl⟩
      cases code <;> simp only [chkC, Bool.false_eq_true] at hc
      · exact CK.skip fin
      · exact CK.label fin
    | rg os =>
      have hr : sRg os tb (exec tb n false) (exec tb n true) (exec tb n r) σA h = some (e, σA', h') := hr
      unfold sRg at hr
      have : ∃ y, runOps tb (exec tb n false) (exec tb n true) os σA h = some y ∧ some (Ex.nrm, y.1, y.2) = some (e, σA', h') := by
        cases hq : runOps tb (exec tb n false) (exec tb n true) os σA h with
        | none => rw [hq] at hr; cases hr
        | some y => rw [hq] at hr; exact ⟨y, rfl, hr⟩
      obtain ⟨y, h1, h2⟩ := this
      cases h2
      cases code <;> simp only [chkC, Bool.false_eq_true] at hc
      exact region_ok hm HC HY (fr_exec tb n false) (fr_exec tb n true) h1 hc S hE M
    | seq a b =>
      have hr : sSeq a b (exec tb n r) σA h = some (e, σA', h') := hr
      cases code <;> simp only [chkC, Bool.false_eq_true, Bool.and_eq_true] at hc
      exact seq_ok HE hr hc.1 hc.2 hrr S hE M hn
    | cond x a b =>
      have hr : sCond x a b (exec tb n r) σA h = some (e, σA', h') := hr
      cases code <;> simp only [chkC, Bool.false_eq_true, Bool.and_eq_true] at hc
      have hx := chkD_ok hc.1 hE
      unfold sCond at hr
      split at hr
      · rename_i hb; rw [hb] at hx
        exact CK.condT hx (HE _ _ _ _ _ _ hr _ N hc.2.1 rr μ σ w D n0 hrr S hE M hn)
      · rename_i hb; rw [hb] at hx
        exact CK.condF hx (HE _ _ _ _ _ _ hr _ N hc.2.2 rr μ σ w D n0 hrr S hE M hn)
      · cases hr
    | block i a =>
      have hr : sBlock i a (exec tb n r) σA h = some (e, σA', h') := hr
      cases code <;> simp only [chkC, Bool.false_eq_true, Bool.and_eq_true] at hc
      rename_i j code
      have hij := Nat.eq_of_beq_eq_true hc.1
      subst hij
      obtain ⟨⟨e1, σ1, h1⟩, ha, hb⟩ := optR hr
      refine CK.block ((HE _ _ _ _ _ _ ha code N hc.2 rr μ σ w D n0 hrr S hE M hn).mono ?_)
      rintro D' e' σ' w' ⟨rfl, μ1, q1, q2, q3, q4, q5, q6⟩
      cases e1 with
      | nrm => cases hb; exact ⟨rfl, μ1, q1, q2, q3, q4, q5, q6⟩
      | ret => cases hb; exact ⟨rfl, μ1, q1, q2, q3, q4, q5, q6⟩
      | exit k =>
        have hb : Bool.rec (motive := fun _ => R) (some (.exit k, σ1, h1)) (some (.nrm, σ1, h1)) (Nat.beq k i) = some (e, σA', h') := hb
        cases hk : Nat.beq k i with
        | true =>
          rw [hk] at hb; cases hb
          have := Nat.eq_of_beq_eq_true hk
          subst this
          exact blockQ_h ⟨rfl, μ1, q1, q2, q3, q4, q5, q6⟩
        | false =>
          rw [hk] at hb; cases hb
          exact blockQ_m ⟨rfl, μ1, q1, q2, q3, q4, q5, q6⟩ hk
    | loop a =>
      have hr' : exec tb (n + 1) r (.loop a) σA h = some (e, σA', h') := hr
      cases code <;> simp only [chkC, Bool.false_eq_true] at hc
      exact CK.ofRounds (n + 1) (loop _ _ _ _ _ _ hr' _ N hc rr μ σ w D n0 hrr S hE M hn)
    | rf g t asg body =>
      have hr : sRf (!r) g t asg body tb (exec tb n false) σA h = some (e, σA', h') := hr
      cases r with
      | true => unfold sRf at hr; simp at hr
      | false =>
        have hnone : rr = none := by cases rr <;> first | rfl | cases hrr
        subst hnone
        cases code <;> first | (simp only [chkC, Bool.false_eq_true] at hc; done) | skip
        exact range_ok HC hc hr S hE M hn
    | exit i =>
      have hr : some (Ex.exit i, σA, h) = some (e, σA', h') := hr
      cases hr
      cases code <;> simp only [chkC, Bool.false_eq_true] at hc
      have := Nat.eq_of_beq_eq_true hc
      subst this
      exact CK.exit ⟨rfl, μ, Ext.refl μ _ w, S, hE, M, rfl, fun _ => rfl⟩
    | scope a =>
      have hr : exec tb n r a σA h = some (e, σA', h') := hr
      cases code <;> simp only [chkC, Bool.false_eq_true] at hc
      refine CK.scope ((HE _ _ _ _ _ _ hr _ N hc rr μ σ w D n0 hrr S hE M hn).mono ?_)
      rintro D' e' σ' w' ⟨rfl, q⟩
      cases e with
      | nrm => exact ⟨rfl, q⟩
      | ret => exact ⟨rfl, q⟩
      | exit k => exact ⟨rfl, q⟩
    | ret =>
      have hr : some (Ex.ret, σA, h) = some (e, σA', h') := hr
      cases hr
      cases code <;> simp only [chkC, Bool.false_eq_true] at hc
      exact CK.ret ⟨rfl, μ, Ext.refl μ _ w, S, hE, M, rfl, fun _ => rfl⟩
    | rl os =>
      have hr : sRl os tb (exec tb n false) (exec tb n true) σA h = some (e, σA', h') := hr
      rw [sRl_eq] at hr
      split at hr
      · rename_i y hq
        cases hr
        obtain ⟨g1, g2⟩ := runL_ok _ _ _ _ hq
        cases code <;> simp only [chkC, Bool.false_eq_true, Bool.and_eq_true, List.all_eq_true] at hc
        rename_i id ops draw
        obtain ⟨rfl, c1, c2⟩ := hc
        have hop : ops = ops.toList.toArray := by simp
        rw [hop]
        exact CK.lazy hm HC HY (fr_exec tb n false) (fr_exec tb n true) (chkZ_ok c1 c2) g2 g1 S hE fun μ' w' σ' q1 q2 q3 q4 => ⟨rfl, μ', q1, q2, q3, M.ext q1, q4, fun _ => rfl⟩
      · cases hr

/-! ### A call that needs no memory -/
theorem Sim.empty (C : Chk) (P : Program) (w : World) : Sim C P (fun _ => none) ⟨.e, .H, .H⟩ w :=
  ⟨fun _ _ => rfl, fun _ _ h => (by cases h), fun _ _ _ _ _ _ h => (by rw [Tr.get_e] at h; cases h), fun _ _ h => (by rw [Tr.get_e] at h; cases h)⟩
theorem run_closed (hm : P.follows .mixedOrders = true) (T : TabOK P tb) (n : Nat) (f : Pos) (args : List AV) (vs : List Value) (v : AV) (h : AH) (hv : ∀ μ, RvL μ args vs) (hr : callW tb (exec tb n false) f args ⟨.e, .H, .H⟩ = some (v, h)) (w : World) :
    Gv P (f.nat - 1) vs w fun cv w' => ∃ μ, Rv μ v cv ∧ Keep w w' Non := by
  obtain ⟨_, hg⟩ := call_of T (exec_ok hm T n false).1 f args _ v h hr
  refine (hg _ w vs (Sim.empty _ _ w) (hv _)).mono ?_
  rintro cv w' ⟨μ', h1, h2, h3, _⟩
  exact ⟨μ', h3, h1.keep.weak fun i _ ⟨p, d, hp, _⟩ => by cases hp⟩
noncomputable def okB (tb : Tr AF) (n : Nat) (f : Pos) (b : Bool) : Bool := match callW tb (exec tb n false) f [] ⟨.e, .H, .H⟩ with
  | some (.bool b', _) => b' == b
  | _ => false
/-- A function without parameters that answers a bool. -/
theorem run_bool (hm : P.follows .mixedOrders = true) (T : TabOK P tb) (n : Nat) (f : Pos) (k : Nat) (hk : f.nat = k + 1) (b : Bool) (hr : okB tb n f b = true) (w : World) : Gv P k [] w fun cv w' => cv = .bool b ∧ Keep w w' Non := by
  unfold okB at hr
  split at hr
  · rename_i b' h hq
    have hb := eq_of_beq hr
    subst hb
    have := run_closed hm T n f [] [] _ h (fun _ => rfl) hq w
    rw [hk] at this
    refine this.mono ?_
    rintro cv w' ⟨μ, h1, h2⟩
    exact ⟨h1, h2⟩
  · cases hr
/-- A table's proof, function by function. -/
def TrAll (f : Nat → AF → Prop) : Tr AF → (Nat → Nat) → Prop
  | .e, _ => True
  | .n l v r, g => (match v with | none => True | some a => f (g 1) a) ∧ TrAll f l (fun n => g (2 * n)) ∧ TrAll f r (fun n => g (2 * n + 1))
theorem trAll_get {f : Nat → AF → Prop} : ∀ {t : Tr AF} {g : Nat → Nat}, TrAll f t g → ∀ p a, t.get p = some a → f (g p.nat) a
  | .e, g, _, p, a, hq => by rw [Tr.get_e] at hq; cases hq
  | .n l v r, g, ⟨h1, h2, h3⟩, .H, a, hq => by
    rw [Tr.get_H] at hq; subst hq; exact h1
  | .n l v r, g, ⟨h1, h2, h3⟩, .O p, a, hq => trAll_get h2 p a hq
  | .n l v r, g, ⟨h1, h2, h3⟩, .I p, a, hq => trAll_get h3 p a hq
theorem tab_of (h : TrAll (fun n a => chkF P (n - 1) a = true) tb fun n => n) : TabOK P tb := fun p af hq => trAll_get h p af hq
end
end Go.KX
