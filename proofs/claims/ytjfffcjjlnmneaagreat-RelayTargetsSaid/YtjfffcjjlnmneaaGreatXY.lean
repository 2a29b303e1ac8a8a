/- The machine catches up with what the model has done. -/
import Derived.Test.YtjfffcjjlnmneaaGreatXP
namespace Go.KX
open Go.RowKit Go.KL

section
variable {tb : Tr AF} {ex exY : Run} {P : Program} {N : Nat} {l : List Oper} {os s t : List AO} {a : AO} {σ0 σ1 σA σf : Tr AV} {h0 h h1 hf : AH} {μ μS : Mu} {σ σ' : Env} {w : World} {o : Oper}
theorem split_uniq : ∀ {s s' t t' : List AO} {a : AO}, (s ++ a :: t).Pairwise (fun a b => a.ix ≠ b.ix) → s ++ a :: t = s' ++ a :: t' → s = s' ∧ t = t'
  | [], [], t, t', a, _, e => by
    simp only [List.nil_append, List.cons.injEq, true_and] at e
    exact ⟨rfl, e⟩
  | [], b :: s', t, t', a, hp, e => by
    simp only [List.nil_append, List.cons_append, List.cons.injEq] at e
    obtain ⟨rfl, rfl⟩ := e
    rw [List.nil_append] at hp
    exact absurd rfl ((List.pairwise_cons.1 hp).1 a (by simp))
  | b :: s, [], t, t', a, hp, e => by
    simp only [List.nil_append, List.cons_append, List.cons.injEq] at e
    obtain ⟨rfl, rfl⟩ := e
    rw [List.cons_append] at hp
    exact absurd rfl ((List.pairwise_cons.1 hp).1 b (by simp))
  | b :: s, b' :: s', t, t', a, hp, e => by
    simp only [List.cons_append, List.cons.injEq] at e
    rw [List.cons_append] at hp
    obtain ⟨h1, h2⟩ := split_uniq (List.pairwise_cons.1 hp).2 e.2
    exact ⟨by rw [e.1, h1], h2⟩
/-- Where the model's operation looks, the machine's does. -/
theorem looks_rd (A : AOK P N l a o) (hs : Sub a.op o) : ∀ d ∈ looks l o, ∃ p ∈ readsA a, p.nat - 1 = d := by
  intro d hd
  unfold looks at hd
  rcases List.mem_append.1 hd with hd | hd
  · obtain ⟨y, h1, h2⟩ := List.mem_filterMap.1 hd
    cases y with
    | tmp t =>
      simp only [Option.some.injEq] at h2
      subst h2
      obtain ⟨p, h3, h4⟩ := hs t (by simpa using h1)
      exact ⟨p, List.mem_append_left _ h3, h4⟩
    | _ => simp at h2
  · rcases A.grd with ⟨_, h2⟩ | ⟨p, b, j, d', h1, h2, h3, h4⟩
    · rw [h2] at hd; simp at hd
    · rw [h2] at hd
      simp only [h3, Option.toList_some, List.mem_singleton] at hd
      subst hd
      exact ⟨p, List.mem_append_right _ (by rw [h1]; simp), h4.symm⟩
/-- What is known of an operation that the model has done and the machine has not. -/
structure Pend (tb : Tr AF) (ex exY : Run) (P : Program) (l : List Oper) (os : List AO) (σ0 : Tr AV) (h0 : AH) (σf : Tr AV) (w0 : World) (μ μS : Mu) (σ : Env) (w : World) (a : AO) (o : Oper) (p : Pos) : Prop where
  get : l[a.ix]? = some o
  dst : a.dst = some p
  fact : (wanted l σ o = false ∧ σ (p.nat - 1) = undef ∧ evA σf (.t p) = u) ∨ (wanted l σ o = true ∧
    (((a.kd = 1 ∨ a.kd = 3 ∨ 8 ≤ a.kd) ∧ Rv μ (evA σf (.t p)) (σ (p.nat - 1))) ∨
      (a.kd = 6 ∧ Rv μS (evA σf (.t p)) (σ (p.nat - 1)) ∧ ∃ w1 w2, Runs P σ w1 o (σ (p.nat - 1)) w2) ∨
      (a.kd = 4 ∧ Rv μS (evA σf (.t p)) (σ (p.nat - 1)) ∧ ∃ w1 ob s1 t1 σ1 h1, Runs P σ w1 o (σ (p.nat - 1)) (w1.alloc ob) ∧ w.heap[w1.heap.size]? = some ob ∧ w0.heap.size ≤ w1.heap.size ∧
        os = s1 ++ a :: t1 ∧ runOps tb ex exY s1 σ0 h0 = some (σ1, h1) ∧ μS h1.nx = some ⟨w1.heap.size, 0, g0⟩ ∧ ∀ q c, μS q = some c → c.1 = w1.heap.size → q = h1.nx)))
theorem opK_ne {tb : Tr AF} {ex exY : Run} {k : Nat} {op : AOp} {σ : Tr AV} {h h' : AH} {v : AV} (hk : k ≠ 2) (hr : opK k op tb ex exY σ h = some (v, h')) : opY op tb ex exY σ h = some (v, h') := by
  have hb : Nat.beq k 2 = false := by
    cases hb : Nat.beq k 2 with
    | false => rfl
    | true => exact absurd (Nat.eq_of_beq_eq_true hb) hk
  have : opK k op = opY op := by unfold opK; rw [hb]
  rwa [this] at hr
theorem fixedK_big {k : Nat} (h : 8 ≤ k) : ¬ fixedK k = true := by
  unfold fixedK
  simp only [Bool.or_eq_true, not_or]
  exact ⟨fun e => by have := Nat.eq_of_beq_eq_true e; omega, fun e => by have := Nat.eq_of_beq_eq_true e; omega⟩
theorem alloc_inj {w : World} {a b : Obj} (h : w.alloc a = w.alloc b) : a = b := by
  have h1 := heap_alloc_new w a
  rw [h, heap_alloc_new] at h1
  exact (Option.some.inj h1).symm
/-- One step of the machine on what is done already. -/
theorem commit (Z : ZOK P N l os) (e : os = s ++ a :: t) {μ0 : Mu} {w0 : World} {fl : Nat} (hs : runOps tb ex exY s σ0 h0 = some (σA, h)) (hr : runOps tb ex exY (a :: t) σA h = some (σf, hf))
    (E : Ext μ0 fl w0 μ w) (S : Sim (CC P) P μ h w) (hE : EnvR μ σA σ') (hle : μ.Le μS) {p : Pos} (Pd : Pend tb ex exY P l os σ0 h0 σf w0 μ μS σ w a o p) (hag : ∀ q ∈ readsA a, σ (q.nat - 1) = σ' (q.nat - 1)) :
    ∃ σB hB μB, runOps tb ex exY (s ++ [a]) σ0 h0 = some (σB, hB) ∧ runOps tb ex exY t σB hB = some (σf, hf) ∧ μ.Le μB ∧ μB.Le μS ∧ Ext μ0 fl w0 μB w ∧ Sim (CC P) P μB hB w ∧ hB.fl = h.fl ∧ EnvR μB σB (upd σ' (p.nat - 1) (σ (p.nat - 1))) ∧ (a.kd = 4 → wanted l σ o = true → μB h.nx ≠ none) := by
  have ha : a ∈ os := by rw [e]; simp
  obtain ⟨o', A⟩ := chkAO_ok (Z.ao a ha)
  have eo : o' = o := by have := A.get; rw [Pd.get] at this; exact (Option.some.inj this).symm
  subst eo
  have hsel := Z.sel a ha _ A.get
  have hsub := Z.sub a ha _ A.get
  have hagr : Agr l o' σ σ' := fun d hd => by
    obtain ⟨q, h1, rfl⟩ := looks_rd A hsub d hd
    exact hag q h1
  have hw := want_ok A hE
  have hwσ : wanted l σ o' = wantA σA a.grd := (wanted_agr hagr).trans hw
  obtain ⟨pd, dd, d1, d2, d3, _⟩ : ∃ p d, a.dst = some p ∧ o'.dst = some d ∧ d = p.nat - 1 ∧ d < N := by
    rcases A.dst with ⟨h1, _⟩ | h
    · rw [Pd.dst] at h1; cases h1
    · exact h
  have ep : pd = p := by rw [Pd.dst] at d1; exact (Option.some.inj d1).symm
  subst ep
  have eput : ∀ cv, put' σ' o' cv = upd σ' (pd.nat - 1) cv := fun cv => by unfold put'; rw [d2, d3]
  obtain ⟨σx, hx, q1, q2⟩ := can_at (s := []) (a := a) (t := t) (σ0 := σA) (h0 := h) (by rw [List.nil_append]; exact hr)
  rw [runOps_nil] at q1
  cases q1
  have split1 : ∀ {σB hB}, (match wantA σA a.grd with | true => (match opK a.kd a.op tb ex exY σA h with | some r => some (putD a.dst σA r.1, r.2) | none => none) | false => some (putD a.dst σA u, h)) = some (σB, hB) → runOps tb ex exY (s ++ [a]) σ0 h0 = some (σB, hB) := by
    intro σB hB hq
    have app : ∀ (l1 l2 : List AO) (x : Tr AV) (y : AH) (x1 : Tr AV) (y1 : AH), runOps tb ex exY l1 x y = some (x1, y1) → runOps tb ex exY (l1 ++ l2) x y = runOps tb ex exY l2 x1 y1 := by
      intro l1
      induction l1 with
      | nil => intro l2 x y x1 y1 h; rw [runOps_nil] at h; cases h; rfl
      | cons b l1 ih =>
        intro l2 x y x1 y1 h
        rw [List.cons_append, runOps_cons]
        rw [runOps_cons] at h
        cases hb : wantA x b.grd with
        | true =>
          rw [hb] at h
          simp only at h ⊢
          cases hq : opK b.kd b.op tb ex exY x y with
          | none => rw [hq] at h; cases h
          | some r => rw [hq] at h; exact ih l2 _ _ _ _ h
        | false =>
          rw [hb] at h
          exact ih l2 _ _ _ _ h
    rw [app s [a] _ _ _ _ hs, runOps_cons]
    cases hb : wantA σA a.grd with
    | true =>
      rw [hb] at hq
      simp only at hq ⊢
      cases hk : opK a.kd a.op tb ex exY σA h with
      | none => rw [hk] at hq; cases hq
      | some r =>
        rw [hk] at hq
        cases hq
        exact runOps_nil _ _ _ _ _
    | false =>
      rw [hb] at hq
      cases hq
      rw [runOps_nil]
  rcases q2 with ⟨g1, v, h2, g2, g3⟩ | ⟨g1, g3⟩
  · have hv : evA σf (.t pd) = v := can_val Z e g3 Pd.dst
    have hrun := split1 (σB := putD a.dst σA v) (hB := h2) (by rw [g1]; simp only; rw [g2])
    rcases Pd.fact with ⟨f1, _⟩ | ⟨_, ⟨fk, f1⟩ | ⟨fk, f1, w1, w2, f2⟩ | ⟨fk, f1, w1, ob, s1, t1, σ1, h1, f2, f3, f4, f5, f6, f7, f8⟩⟩
    · rw [hwσ, g1] at f1; cases f1
    · have gY : opY a.op tb ex exY σA h = some (v, h2) := opK_ne (by omega) g2
      have hk : kdA a.op = 1 ∨ kdA a.op = 3 := by
        rcases fk with fk | fk | fk
        · exact A.k1 fk
        · exact .inr (A.k3 fk)
        · rcases Z.kd a ha with hh | ⟨_, hh | hh | hh | hh | hh⟩
          · exact absurd hh (fixedK_big fk)
          · omega
          · omega
          · omega
          · omega
          · exact .inl hh.2
      obtain ⟨e1, _⟩ := okL_of (C := CC P) hk A.op _ _ _ _ gY
      subst e1
      rw [hv] at f1
      exact ⟨_, _, μ, hrun, g3, Mu.Le.refl μ, hle, E, S, rfl, by rw [← eput]; exact put_ok A hE f1, fun h4 _ => by omega⟩
    · have gY : opY a.op tb ex exY σA h = some (v, h2) := by rw [fk] at g2; exact g2
      have hk : kdA a.op = 3 := by
        rcases Z.kd a ha with hh | ⟨_, hh | hh | hh | hh | hh⟩
        · rw [fk] at hh; exact absurd hh (by decide)
        · omega
        · omega
        · exact hh.2
        · omega
        · omega
      obtain ⟨e1, e2⟩ := okP_of hk A.op _ _ _ _ gY
      subst e1
      obtain ⟨cv, c1, c2⟩ := e2 μ σ' hE
      have := Runs.det ((Runs.agr hsel hagr).2 (c2 o' w1 rfl)) f2
      rw [← eput, ← this.1]
      exact ⟨_, _, μ, hrun, g3, Mu.Le.refl μ, hle, E, S, rfl, put_ok A hE c1, fun h4 _ => by omega⟩
    · have gY : opY a.op tb ex exY σA h = some (v, h2) := by rw [fk] at g2; exact g2
      have hk : isAl a.op = true := by
        rcases Z.kd a ha with hh | ⟨_, hh | hh | hh | hh | hh⟩
        · rw [fk] at hh; exact absurd hh (by decide)
        · omega
        · omega
        · omega
        · exact hh.2
        · omega
      obtain ⟨B, vf, e1, e2, _, _, e5⟩ := okA_of (C := CC P) hk A.op _ _ _ _ gY
      obtain ⟨ob', val, c1, c2, c3⟩ := e5 μ σ' hE o' rfl
      obtain ⟨k1, k2⟩ := Runs.det ((Runs.agr hsel hagr).2 (c1 w1)) f2
      have k2 := alloc_inj k2
      subst k2
      have es : s1 = s := (split_uniq (f5 ▸ Z.one) (f5.symm.trans e)).1
      subst es
      rw [hs] at f6
      cases f6
      have hn0 := S.nx h.nx (Nat.le_refl _)
      have hadd := Mu.add_le (c := (⟨w1.heap.size, 0, g0⟩ : Cl)) hn0
      have hlt : w1.heap.size < w.heap.size := lt_of_some f3
      subst e1 e2
      have hv' : Rv (μ.add h.nx ⟨w1.heap.size, 0, g0⟩) (vf h.nx) (σ (pd.nat - 1)) := by
        rw [← k1]
        exact c3 _ _ _ (Mu.add_same _ _ _)
      refine ⟨_, _, μ.add h.nx ⟨w1.heap.size, 0, g0⟩, hrun, g3, hadd, ?_, ⟨E.mono.trans hadd, ?_, E.keep⟩, S.adopt hlt ?_ (c2 _ w _ hadd f3), rfl, ?_, fun _ _ => by rw [Mu.add_same]; simp⟩
      · intro q d hq
        unfold Mu.add at hq
        split at hq
        · rename_i eq
          subst eq
          cases hq
          exact f7
        · exact hle q d hq
      · intro q c hq
        unfold Mu.add at hq
        split at hq
        · cases hq
          exact .inr (.inr f4)
        · exact E.new q c hq
      · intro q d hq hd
        have := f8 q d (hle q d hq) hd
        subst this
        rw [hn0] at hq
        cases hq
      · rw [← eput]
        exact put_ok A (hE.mono hadd) hv'
  · have hrun := split1 (σB := putD a.dst σA u) (hB := h) (by rw [g1])
    rcases Pd.fact with ⟨_, f2, _⟩ | ⟨f1, _⟩
    · refine ⟨_, _, μ, hrun, g3, Mu.Le.refl μ, hle, E, S, rfl, ?_, fun _ hw' => by rw [hwσ, g1] at hw'; cases hw'⟩
      rw [f2, ← eput]
      exact put_ok A hE (rv_u μ)
    · rw [hwσ, g1] at f1; cases f1
/-- The invariant: the machine has run s; what is done of t is pending. -/
structure JS (tb : Tr AF) (ex exY : Run) (P : Program) (l : List Oper) (os : List AO) (σ0 : Tr AV) (h0 : AH) (σf : Tr AV) (hf : AH) (μ0 : Mu) (w0 : World) (S : Nat → Bool) (σ : Env) (w : World) (s t : List AO) (σA : Tr AV) (h : AH) (σ' : Env) (μ μS : Mu) : Prop where
  e : os = s ++ t
  hs : runOps tb ex exY s σ0 h0 = some (σA, h)
  hr : runOps tb ex exY t σA h = some (σf, hf)
  inS : ∀ a ∈ s, S a.ix = true
  free : ∀ a ∈ t, S a.ix = true → fixedK a.kd = false
  E : Ext μ0 h0.fl.nat w0 μ w
  sim : Sim (CC P) P μ h w
  fl : h.fl = h0.fl
  env : EnvR μ σA σ'
  ag : ∀ q : Pos, (∀ a ∈ t, S a.ix = true → a.dst ≠ some q) → σ (q.nat - 1) = σ' (q.nat - 1)
  le : μ.Le μS
  nm : ∀ q c, μS q = some c → μ q = some c ∨ ∃ a o s1 t1 σ1 h1, a ∈ t ∧ S a.ix = true ∧ l[a.ix]? = some o ∧ wanted l σ o = true ∧ a.kd = 4 ∧ os = s1 ++ a :: t1 ∧ runOps tb ex exY s1 σ0 h0 = some (σ1, h1) ∧ q = h1.nx
  pd : ∀ a ∈ t, S a.ix = true → ∃ o p, Pend tb ex exY P l os σ0 h0 σf w0 μ μS σ w a o p
theorem Pend.mono {μB : Mu} {w0 : World} {p : Pos} (h : Pend tb ex exY P l os σ0 h0 σf w0 μ μS σ w a o p) (hm : μ.Le μB) : Pend tb ex exY P l os σ0 h0 σf w0 μB μS σ w a o p := by
  refine ⟨h.get, h.dst, ?_⟩
  rcases h.fact with f | ⟨f, ⟨f1, f2⟩ | f1 | f1⟩
  · exact .inl f
  · exact .inr ⟨f, .inl ⟨f1, f2.mono hm⟩⟩
  · exact .inr ⟨f, .inr (.inl f1)⟩
  · exact .inr ⟨f, .inr (.inr f1)⟩
/-- The machine catches up by one. -/
theorem JS.catch1 (Z : ZOK P N l os) {μ0 : Mu} {w0 : World} {S : Nat → Bool} (J : JS tb ex exY P l os σ0 h0 σf hf μ0 w0 S σ w s (a :: t) σA h σ' μ μS) (ha : S a.ix = true) :
    ∃ σB hB σ'' μB, JS tb ex exY P l os σ0 h0 σf hf μ0 w0 S σ w (s ++ [a]) t σB hB σ'' μB μS := by
  obtain ⟨o, p, Pd⟩ := J.pd a (by simp) ha
  have hag : ∀ q ∈ readsA a, σ (q.nat - 1) = σ' (q.nat - 1) := fun q hq => J.ag q fun b hb _ => Z.rd s a t J.e q hq b hb
  obtain ⟨σB, hB, μB, c1, c2, c3, c4, c5, c6, c7, c8, c9⟩ := commit Z J.e J.hs J.hr J.E J.sim J.env J.le Pd hag
  have hne : ∀ b ∈ t, b.ix ≠ a.ix := fun b hb e => by
    have := Z.one
    rw [J.e] at this
    exact (List.pairwise_cons.1 (List.pairwise_append.1 this).2.1).1 b hb e.symm
  refine ⟨σB, hB, _, μB, by rw [J.e]; simp, c1, c2, fun b hb => ?_, fun b hb => J.free b (by simp [hb]), c5, c6, c7.trans J.fl, c8, fun q hq => ?_, c4, fun q c hq => ?_, fun b hb hS => ?_⟩
  · rcases List.mem_append.1 hb with hb | hb
    · exact J.inS b hb
    · rw [List.mem_singleton.1 hb]; exact ha
  · by_cases e : q = p
    · subst e
      rw [upd_same]
    · rw [upd_ne _ _ (fun h => e (Pos.nat_inj (by have := q.nat_pos; have := p.nat_pos; omega)))]
      refine J.ag q fun b hb hS => ?_
      rcases List.mem_cons.1 hb with rfl | hb
      · rw [Pd.dst]
        intro h
        cases h
        exact e rfl
      · exact hq b hb hS
  · rcases J.nm q c hq with h1 | ⟨b, ob, s1, t1, σ1, h1, k1, k2, k3, k4, k5, k6, k7, k8⟩
    · exact .inl (c3 _ _ h1)
    · rcases List.mem_cons.1 k1 with rfl | k1
      · left
        have hs1 : s1 = s := (split_uniq (k6 ▸ Z.one) (k6.symm.trans J.e)).1
        subst hs1
        rw [J.hs] at k7
        cases k7
        subst k8
        rw [Pd.get] at k3
        cases k3
        have := c9 k5 k4
        cases hm : μB h.nx with
        | none => exact absurd hm this
        | some c' =>
          have := c4 _ _ hm
          rw [hq] at this
          exact this.symm
      · exact .inr ⟨b, ob, s1, t1, σ1, h1, k1, k2, k3, k4, k5, k6, k7, k8⟩
  · obtain ⟨o', p', h'⟩ := J.pd b (by simp [hb]) hS
    exact ⟨o', p', h'.mono c3⟩
end
end Go.KX
