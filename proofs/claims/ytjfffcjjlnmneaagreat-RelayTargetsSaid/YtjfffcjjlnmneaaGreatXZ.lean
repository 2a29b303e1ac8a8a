/- A fixed operation where others are pending. -/
import Derived.Test.YtjfffcjjlnmneaaGreatXY
namespace Go.KX
open Go.RowKit Go.KL

section
variable {tb : Tr AF} {ex exY : Run} {P : Program} {N : Nat} {l : List Oper} {os s t : List AO} {a : AO} {σ0 σA σf : Tr AV} {h0 h hf : AH} {μ μS : Mu} {σ σ' : Env} {w : World} {o : Oper}
theorem ops_app : ∀ (l1 l2 : List AO) (x : Tr AV) (y : AH) (x1 : Tr AV) (y1 : AH), runOps tb ex exY l1 x y = some (x1, y1) → runOps tb ex exY (l1 ++ l2) x y = runOps tb ex exY l2 x1 y1
  | [], l2, x, y, x1, y1, h => by rw [runOps_nil] at h; cases h; rfl
  | b :: l1, l2, x, y, x1, y1, h => by
    rw [List.cons_append, runOps_cons]
    rw [runOps_cons] at h
    cases hb : wantA x b.grd with
    | true =>
      rw [hb] at h
      simp only at h ⊢
      cases hq : opK b.kd b.op tb ex exY x y with
      | none => rw [hq] at h; cases h
      | some r => rw [hq] at h; exact ops_app l1 l2 _ _ _ _ h
    | false =>
      rw [hb] at h
      exact ops_app l1 l2 _ _ _ _ h
/-- Names that are kept for what is pending are given by no one. -/
theorem nm_ge (HE : FrX ex) (HY : FrX exY) (Z : ZOK P N l os) (e : os = s ++ t) (hs : runOps tb ex exY s σ0 h0 = some (σA, h)) {b : AO} (hb : b ∈ t) {s1 t1 : List AO} {σ1 : Tr AV} {h1 : AH} (e1 : os = s1 ++ b :: t1) (hr : runOps tb ex exY s1 σ0 h0 = some (σ1, h1)) : h.nx.nat ≤ h1.nx.nat := by
  obtain ⟨r, r', rfl⟩ := List.append_of_mem hb
  have es : s1 = s ++ r := (split_uniq (e1 ▸ Z.one) (e1.symm.trans (e.trans (List.append_assoc _ _ _).symm))).1
  subst es
  rw [ops_app s r _ _ _ _ hs] at hr
  exact (fr_ops HE HY _ _ _ _ _ hr).nx
/-- What is pending does not look at what is not done. -/
theorem pend_agr (Z : ZOK P N l os) {S : Nat → Bool} (hdc : ∀ k, k < l.length → S k = true → ∀ j ∈ prI l k, S j = true) (ha : a ∈ os) (hS : S a.ix = false) {b : AO} (hb : b ∈ os) (hbS : S b.ix = true) (A : AOK P N l a o) {ob : Oper} (hob : l[b.ix]? = some ob) (v : Value) : Agr l ob σ (put' σ o v) := by
  obtain ⟨ob', B⟩ := chkAO_ok (Z.ao b hb)
  have eo : ob' = ob := by have := B.get; rw [hob] at this; exact (Option.some.inj this).symm
  subst eo
  intro d hd
  obtain ⟨p, hp, rfl⟩ := looks_rd B (Z.sub b hb _ B.get) d hd
  symm
  refine put'_ne fun dd hdd e => ?_
  rcases A.dst with ⟨_, h2⟩ | ⟨q, d', h1, h2, h3, _⟩
  · rw [h2] at hdd; cases hdd
  · rw [h2] at hdd
    have hdd := Option.some.inj hdd
    have eq : q = p := Pos.nat_inj (by have := q.nat_pos; have := p.nat_pos; have : q.nat - 1 = p.nat - 1 := h3.symm.trans (hdd.trans e); omega)
    subst eq
    have := Z.rdS b hb q hp a ha h1
    have hlt : b.ix < l.length := (List.getElem?_eq_some_iff.1 hob).1
    have := anc_done hdc (hdc _ hlt hbS) this
    rw [hS] at this
    cases this
theorem JS.fixed (HC : CallOK (CC P) P tb ex) (HY' : YieldOK (CC P) P exY) (HE : FrX ex) (HY : FrX exY) (Z : ZOK P N l os) {μ0 : Mu} {w0 : World} {S : Nat → Bool} (J : JS tb ex exY P l os σ0 h0 σf hf μ0 w0 S σ w s (a :: t) σA h σ' μ μS) (hfix : fixedK a.kd = true) (hS : S a.ix = false)
    (hdc : ∀ k, k < l.length → S k = true → ∀ j ∈ prI l k, S j = true) (A : AOK P N l a o) :
    Step1 P l o σ w fun v w' => ∃ σB hB σ'' μB μT, JS tb ex exY P l os σ0 h0 σf hf μ0 w0 (fun k => k == a.ix || S k) (put' σ o v) w' (s ++ [a]) t σB hB σ'' μB μT := by
  have ha : a ∈ os := by rw [J.e]; simp
  have hsel := Z.sel a ha _ A.get
  have hag : ∀ q ∈ readsA a, σ (q.nat - 1) = σ' (q.nat - 1) := fun q hq => J.ag q fun b hb _ => Z.rd s a t J.e q hq b hb
  have hagr : Agr l o σ σ' := fun d hd => by
    obtain ⟨q, h1, rfl⟩ := looks_rd A (Z.sub a ha _ A.get) d hd
    exact hag q h1
  have hw := want_ok A J.env
  -- what is there behind it
  have main : ∀ (v : AV) (cv : Value) (hB : AH) (w' : World) (μB : Mu), runOps tb ex exY (s ++ [a]) σ0 h0 = some (putD a.dst σA v, hB) → runOps tb ex exY t (putD a.dst σA v) hB = some (σf, hf) →
      Ext μ h.fl.nat w μB w' → Sim (CC P) P μB hB w' → EnvR μB (putD a.dst σA v) (put' σ' o cv) → hB.fl = h.fl →
      ∃ σB hB σ'' μB μT, JS tb ex exY P l os σ0 h0 σf hf μ0 w0 (fun k => k == a.ix || S k) (put' σ o cv) w' (s ++ [a]) t σB hB σ'' μB μT := by
    intro v cv hB w' μB r1 r2 E' S' hE' hfl
    have hne : ∀ b ∈ t, b.ix ≠ a.ix := fun b hb e => by
      have := Z.one
      rw [J.e] at this
      exact (List.pairwise_cons.1 (List.pairwise_append.1 this).2.1).1 b hb e.symm
    have hSb : ∀ b ∈ t, (b.ix == a.ix || S b.ix) = true → S b.ix = true := fun b hb h => by
      have := hne b hb
      simpa [this] using h
    have hbo : ∀ b ∈ t, b ∈ os := fun b hb => by rw [J.e]; simp [hb]
    have eB : os = (s ++ [a]) ++ t := by rw [J.e]; simp
    -- names of what is pending
    have hnm : ∀ b ∈ t, ∀ s1 t1 σ1 h1, os = s1 ++ b :: t1 → runOps tb ex exY s1 σ0 h0 = some (σ1, h1) → μB h1.nx = none ∧ μ h1.nx = none := fun b hb s1 t1 σ1 h1 e1 hr => by
      have g1 := nm_ge HE HY Z eB r1 hb e1 hr
      have g2 := nm_ge HE HY Z J.e J.hs (b := b) (by simp [hb]) e1 hr
      exact ⟨S'.nx _ g1, J.sim.nx _ g2⟩
    let μT : Mu := fun q => match μB q with | some c => some c | none => μS q
    have hT : μB.Le μT := fun q c hq => by show (match μB q with | some c => some c | none => μS q) = _; rw [hq]
    have hST : μS.Le μT := fun q c hq => by
      show (match μB q with | some c => some c | none => μS q) = _
      cases hB : μB q with
      | none => exact hq
      | some c' =>
        rcases J.nm q c hq with h1 | ⟨b, ob, s1, t1, σ1, h1, k1, k2, k3, k4, k5, k6, k7, k8⟩
        · rw [E'.mono _ _ h1] at hB
          exact hB.symm ▸ rfl
        · rcases List.mem_cons.1 k1 with rfl | k1
          · rw [hS] at k2; cases k2
          · have := (hnm b k1 s1 t1 σ1 h1 k6 k7).1
            rw [← k8, hB] at this
            cases this
    refine ⟨_, hB, _, μB, μT, eB, r1, r2, fun b hb => ?_, fun b hb hh => J.free b (by simp [hb]) (hSb b hb hh), ?_, S', hfl.trans J.fl, hE', fun q hq => ?_, hT, fun q c hq => ?_, fun b hb hh => ?_⟩
    · rcases List.mem_append.1 hb with hb | hb
      · simp [J.inS b hb]
      · rw [List.mem_singleton.1 hb]; simp
    · have := J.E
      refine this.trans ?_
      rw [← J.fl]
      exact E'
    · have old : σ (q.nat - 1) = σ' (q.nat - 1) ∨ a.dst = some q := by
        by_cases hq' : a.dst = some q
        · exact .inr hq'
        · exact .inl (J.ag q fun b hb h => by
            rcases List.mem_cons.1 hb with rfl | hb
            · exact hq'
            · exact hq b hb (by simp [h]))
      rcases A.dst with ⟨h1, h2⟩ | ⟨p, d, h1, h2, h3, _⟩
      · unfold put'
        rw [h2]
        rcases old with old | old
        · exact old
        · rw [h1] at old; cases old
      · unfold put'
        rw [h2]
        by_cases e : q.nat - 1 = d
        · simp only [e, upd_same]
        · simp only
          rw [upd_ne _ _ e, upd_ne _ _ e]
          rcases old with old | old
          · exact old
          · rw [h1] at old
            cases old
            exact absurd h3.symm e
    · have hq : (match μB q with | some c => some c | none => μS q) = some c := hq
      cases hB' : μB q with
      | some c' =>
        rw [hB'] at hq
        exact .inl hq
      | none =>
        rw [hB'] at hq
        rcases J.nm q c hq with h1 | ⟨b, ob, s1, t1, σ1, h1, k1, k2, k3, k4, k5, k6, k7, k8⟩
        · rw [E'.mono _ _ h1] at hB'
          cases hB'
        · rcases List.mem_cons.1 k1 with rfl | k1
          · rw [hS] at k2; cases k2
          · exact .inr ⟨b, ob, s1, t1, σ1, h1, k1, by simp [k2], k3, (wanted_agr (pend_agr Z hdc ha hS (hbo b k1) k2 A k3 cv)).symm.trans k4, k5, k6, k7, k8⟩
    · have hbS := hSb b hb hh
      obtain ⟨ob, p, Pd⟩ := J.pd b (by simp [hb]) hbS
      have hA := pend_agr (σ := σ) Z hdc ha hS (hbo b hb) hbS A Pd.get cv
      have hp : put' σ o cv (p.nat - 1) = σ (p.nat - 1) := put'_ne fun d hd e => by
        rcases A.dst with ⟨_, h2⟩ | ⟨q, d', h1, h2, h3, _⟩
        · rw [h2] at hd; cases hd
        · rw [h2] at hd
          have hd := Option.some.inj hd
          have eq : q = p := Pos.nat_inj (by have := q.nat_pos; have := p.nat_pos; have : q.nat - 1 = p.nat - 1 := h3.symm.trans (hd.trans e); omega)
          subst eq
          exact Z.wr s a t J.e q h1 b (List.mem_append_right _ hb) Pd.dst
      have hsb := Z.sel b (hbo b hb) _ Pd.get
      refine ⟨ob, p, Pd.get, Pd.dst, ?_⟩
      rw [hp, ← wanted_agr hA]
      rcases Pd.fact with f | ⟨f, ⟨f1, f2⟩ | ⟨f1, f2, w1, w2, f3⟩ | ⟨f1, f2, w1, o1, s1, t1, σ1, h1, f3, f4, f5, f6, f7, f8, f9⟩⟩
      · exact .inl f
      · exact .inr ⟨f, .inl ⟨f1, f2.mono E'.mono⟩⟩
      · exact .inr ⟨f, .inr (.inl ⟨f1, f2.mono hST, w1, w2, (Runs.agr hsb hA).1 f3⟩)⟩
      · obtain ⟨n1, n2⟩ := hnm b hb s1 t1 σ1 h1 f6 f7
        have nimg : ¬ img μ h.fl.nat w1.heap.size := by
          rintro ⟨q, d, g1, g2, _⟩
          have := f9 q d (J.le _ _ g1) g2
          rw [this, n2] at g1
          cases g1
        refine .inr ⟨f, .inr (.inr ⟨f1, f2.mono hST, w1, o1, s1, t1, σ1, h1, (Runs.agr hsb hA).1 f3, (E'.keep.block _ (lt_of_some f4) nimg).trans f4, f5, f6, f7, hST _ _ f8, fun q c hq hc => ?_⟩)⟩
        have hq : (match μB q with | some c => some c | none => μS q) = some c := hq
        cases hB' : μB q with
        | none => rw [hB'] at hq; exact f9 q c hq hc
        | some c' =>
          rw [hB'] at hq
          cases hq
          rcases E'.new q c hB' with g | g | g
          · exact f9 q c (J.le _ _ g) hc
          · rw [hc] at g; exact absurd g nimg
          · have := lt_of_some f4; omega
  obtain ⟨σx, hx, q1, q2⟩ := can_at (s := []) (a := a) (t := t) (σ0 := σA) (h0 := h) (by rw [List.nil_append]; exact J.hr)
  rw [runOps_nil] at q1
  cases q1
  refine Step1.agr hsel (fun d hd => (hagr d hd).symm) ?_
  rcases q2 with ⟨g1, v, h2, g2, g3⟩ | ⟨g1, g3⟩
  · refine (stepK HC HY' A (hw.trans g1) g2 J.env J.sim).mono ?_
    rintro cv w' ⟨_, μB, e1, e2, e3, e4⟩
    refine main v cv h2 w' μB ?_ g3 e1 e2 e3 e4
    rw [ops_app s [a] _ _ _ _ J.hs, runOps_cons, g1]
    simp only
    rw [g2]
    exact runOps_nil _ _ _ _ _
  · refine .inr ⟨hw.trans g1, ?_⟩
    refine main u undef h w μ ?_ g3 (Ext.refl μ _ w) J.sim (put_ok A J.env (rv_u μ)) rfl
    rw [ops_app s [a] _ _ _ _ J.hs, runOps_cons, g1]
    exact runOps_nil _ _ _ _ _
/-- What an operation looks at whose ancestors are done: the canonical values stand for what is there. -/
theorem JS.opnd (Z : ZOK P N l os) {μ0 : Mu} {w0 : World} {S : Nat → Bool} (J : JS tb ex exY P l os σ0 h0 σf hf μ0 w0 S σ w s t σA h σ' μ μS) (ha : a ∈ os) (hl : a.ix < l.length) (hp : ∀ j ∈ prI l a.ix, S j = true)
    (hdc : ∀ k, k < l.length → S k = true → ∀ j ∈ prI l k, S j = true) {p : Pos} (hr : p ∈ readsA a) : Rv μS (evA σf (.t p)) (σ (p.nat - 1)) ∧ (a.kd = 1 ∨ a.kd = 3 ∨ 8 ≤ a.kd → Rv μ (evA σf (.t p)) (σ (p.nat - 1))) := by
  -- where nothing that is pending writes the slot
  have base : (∀ b ∈ t, b.dst ≠ some p) → Rv μ (evA σf (.t p)) (σ (p.nat - 1)) := fun hn => by
    rw [runOps_slot t _ _ _ _ J.hr p hn, J.ag p fun b hb _ => hn b hb]
    exact J.env p
  by_cases hw : ∃ b ∈ t, b.dst = some p
  · obtain ⟨b, hb, hd⟩ := hw
    have hbo : b ∈ os := by rw [J.e]; simp [hb]
    have hanc := Z.rdS a ha p hr b hbo hd
    have hS := anc_done hdc hp hanc
    obtain ⟨ob, p', Pd⟩ := J.pd b hb hS
    have ep : p' = p := by have := Pd.dst; rw [hd] at this; exact (Option.some.inj this).symm
    subst ep
    rcases Pd.fact with ⟨_, f1, f2⟩ | ⟨_, ⟨_, f1⟩ | ⟨f0, f1, _⟩ | ⟨f0, f1, _⟩⟩
    · rw [f1, f2]
      exact ⟨rv_u _, fun _ => rv_u _⟩
    · exact ⟨f1.mono J.le, fun _ => f1⟩
    · exact ⟨f1, fun hk => absurd f0 (Z.cl a ha hk p' hr b hbo hd).2⟩
    · exact ⟨f1, fun hk => absurd f0 (Z.cl a ha hk p' hr b hbo hd).1⟩
  · have := base fun b hb hd => hw ⟨b, hb, hd⟩
    exact ⟨this.mono J.le, fun _ => this⟩
end
end Go.KX
namespace Go.KX
open Go.RowKit Go.KL

section
variable {tb : Tr AF} {ex exY : Run} {P : Program} {N : Nat} {l : List Oper} {os s t : List AO} {a : AO} {σ0 σA σf : Tr AV} {h0 h h1 h' hf : AH} {μ μS : Mu} {σ σ' : Env} {w : World} {o : Oper} {v : AV}
/-- What is loaded from blocks that are as they were is the same. -/
theorem load_old {a : AOp} {op : Op} (hk : kdA a = 1) (hc : chkOp P a op = true) (hE : EnvR μ σA σ) (hm : ∀ b c, μ b = some c → h.m.get b = h1.m.get b) (hr : opY a tb ex exY σA h1 = some (v, h')) : opY a tb ex exY σA h = some (v, h) := by
  have cel : ∀ b c, μ b = some c → cellsAt h b = cellsAt h1 b := fun b c hb => by unfold cellsAt; rw [hm b c hb]
  cases a <;> first | (simp [kdA] at hk; done) | skip
  case ld x =>
    have hr : o_ld x σA h1 = some (v, h') := hr
    show o_ld x σA h = some (v, h)
    have hc : c_ld P x op = true := hc
    unfold c_ld at hc
    split at hc
    · simp only [Bool.and_eq_true] at hc
      have g := chkD_ok hc.2 hE
      unfold o_ld at hr ⊢
      split at hr
      · rename_i b off hb
        rw [hb] at g
        obtain ⟨c, g1, _⟩ := g
        simp only [hb, cel b c g1]
        split at hr
        · exact okV_all hr h
        · cases hr
      · cases hr
    · cases hc
  case ldA n x =>
    have hr : o_ldA n x σA h1 = some (v, h') := hr
    show o_ldA n x σA h = some (v, h)
    have hc : c_ldA P n x op = true := hc
    unfold c_ldA at hc
    split at hc
    · simp only [Bool.and_eq_true] at hc
      have g := chkD_ok hc.2 hE
      unfold o_ldA at hr ⊢
      split at hr
      · rename_i b off hb
        rw [hb] at g
        obtain ⟨c, g1, _⟩ := g
        simp only [hb, cel b c g1]
        split at hr
        · exact okV_all hr h
        · cases hr
      · cases hr
    · cases hc
  case lk two k ok z x y =>
    have hr : o_lk two k ok z x y σA h1 = some (v, h') := hr
    show o_lk two k ok z x y σA h = some (v, h)
    have hc : c_lk P two k ok z x y op = true := hc
    unfold c_lk at hc
    split at hc
    · simp only [Bool.and_eq_true] at hc
      have g := chkD_ok hc.2.2.1 hE
      unfold o_lk at hr ⊢
      split at hr
      · rename_i b hb
        rw [hb] at g
        obtain ⟨c, g1, _⟩ := g
        simp only [hb, hm b c g1]
        repeat' (split at hr)
        all_goals first | (cases hr; done) | (cases hr; rfl)
      · cases hr
    · cases hc
  case lenM x =>
    have hr : o_lenM x σA h1 = some (v, h') := hr
    show o_lenM x σA h = some (v, h)
    have hc : c_lenM P x op = true := hc
    unfold c_lenM at hc
    split at hc
    · split at hc
      · simp only [Bool.and_eq_true] at hc
        obtain ⟨_, hc⟩ := hc
        split at hc
        · simp only [Bool.and_eq_true] at hc
          have g := chkD_ok hc.2 hE
          unfold o_lenM at hr ⊢
          split at hr
          · rename_i hb
            cases hr
            simp_all
          · rename_i b hb
            rw [hb] at g
            obtain ⟨c, g1, _⟩ := g
            simp only [hb, hm b c g1]
            repeat' (split at hr)
            all_goals first | (cases hr; done) | (cases hr; rfl)
          · cases hr
        · cases hc
      · cases hc
    · cases hc
/-- What free operations, and those of kind 2, leave as it was. -/
theorem old_keep (HE : FrX ex) (HY : FrX exY) : ∀ (r : List AO) (σ1 : Tr AV) (h1 : AH) (σ2 : Tr AV) (h2 : AH), runOps tb ex exY r σ1 h1 = some (σ2, h2) → (∀ b ∈ r, chkAO P N l b = true) →
    (∀ b ∈ r, b.kd = 2 ∨ (b.kd = 1 ∨ b.kd = 3 ∨ (b.kd = 6 ∧ kdA b.op = 3) ∨ (b.kd = 4 ∧ isAl b.op = true) ∨ (8 ≤ b.kd ∧ kdA b.op = 1))) → h1.nx.nat ≤ h2.nx.nat ∧ ∀ p : Pos, p.nat < h1.nx.nat → h2.m.get p = h1.m.get p
  | [], σ1, h1, σ2, h2, hr, _, _ => by
    rw [runOps_nil] at hr
    cases hr
    exact ⟨Nat.le_refl _, fun _ _ => rfl⟩
  | b :: r, σ1, h1, σ2, h2, hr, hc, hk => by
    rw [runOps_cons] at hr
    cases hw : wantA σ1 b.grd with
    | false =>
      rw [hw] at hr
      exact old_keep HE HY r _ _ _ _ hr (fun c hcc => hc c (by simp [hcc])) (fun c hcc => hk c (by simp [hcc]))
    | true =>
      rw [hw] at hr
      simp only at hr
      cases hq : opK b.kd b.op tb ex exY σ1 h1 with
      | none => rw [hq] at hr; cases hr
      | some q =>
        rw [hq] at hr
        obtain ⟨v, h3⟩ := q
        obtain ⟨g1, g2⟩ := old_keep HE HY r _ _ _ _ hr (fun c hcc => hc c (by simp [hcc])) (fun c hcc => hk c (by simp [hcc]))
        obtain ⟨o, A⟩ := chkAO_ok (hc b (by simp))
        have one : h1.nx.nat ≤ h3.nx.nat ∧ ∀ p : Pos, p.nat < h1.nx.nat → h3.m.get p = h1.m.get p := by
          have same : h3 = h1 → h1.nx.nat ≤ h3.nx.nat ∧ ∀ p : Pos, p.nat < h1.nx.nat → h3.m.get p = h1.m.get p := fun e => by subst e; exact ⟨Nat.le_refl _, fun _ _ => rfl⟩
          rcases hk b (by simp) with k | k | k | ⟨k, k'⟩ | ⟨k, k'⟩ | ⟨k, k'⟩
          · exact ⟨(fr_opK HE HY _ _ hq).nx, fr_two HE HY b.op (by rw [k] at hq; exact hq)⟩
          · rw [k] at hq
            exact same (okL_of (C := CC P) (A.k1 k) A.op _ _ _ _ hq).1
          · rw [k] at hq
            exact same (okP_of (A.k3 k) A.op _ _ _ _ hq).1
          · rw [k] at hq
            exact same (okP_of k' A.op _ _ _ _ hq).1
          · rw [k] at hq
            obtain ⟨B, vf, e1, _⟩ := okA_of (C := CC P) k' A.op _ _ _ _ hq
            subst e1
            refine ⟨(Fr.push h1 B).nx, fun p hp => ?_⟩
            show (h1.m.set h1.nx B).get p = _
            rw [Tr.get_set, if_neg (fun e => by subst e; omega)]
          · exact same (okL_of (C := CC P) (.inl k') A.op _ _ _ _ (opK_ne (by omega) hq)).1
        exact ⟨Nat.le_trans one.1 g1, fun p hp => (g2 p (Nat.lt_of_lt_of_le hp one.1)).trans (one.2 p hp)⟩
/-- The run as a whole. -/
theorem JS.full {μ0 : Mu} {w0 : World} {S : Nat → Bool} (J : JS tb ex exY P l os σ0 h0 σf hf μ0 w0 S σ w s t σA h σ' μ μS) : runOps tb ex exY os σ0 h0 = some (σf, hf) := by
  rw [J.e, ops_app s t _ _ _ _ J.hs]
  exact J.hr
theorem isplit {a : AO} (Z : ZOK P N l os) (h : a ∈ os) : ∃ s1 t1, os = s1 ++ a :: t1 := List.append_of_mem h
/-- What an operation looks at whose ancestors are done: frames that know just that. -/
theorem JS.frm (Z : ZOK P N l os) {μ0 : Mu} {w0 : World} {S : Nat → Bool} (J : JS tb ex exY P l os σ0 h0 σf hf μ0 w0 S σ w s t σA h σ' μ μS) (ha : a ∈ os) (hl : a.ix < l.length) (hp : ∀ j ∈ prI l a.ix, S j = true)
    (hdc : ∀ k, k < l.length → S k = true → ∀ j ∈ prI l k, S j = true) (A : AOK P N l a o) {s1 t1 : List AO} {σ1 : Tr AV} (e1 : os = s1 ++ a :: t1) (hr1 : runOps tb ex exY s1 σ0 h0 = some (σ1, h1)) :
    wanted l σ o = wantA σ1 a.grd ∧ ∀ p ∈ readsA a, evA σf (.t p) = evA σ1 (.t p) := by
  have hf := J.full
  have hrd : ∀ p ∈ readsA a, evA σf (.t p) = evA σ1 (.t p) := fun p hp => by
    rw [e1, ops_app s1 _ _ _ _ _ hr1] at hf
    exact can_rd Z e1 hf hp
  refine ⟨?_, hrd⟩
  have hE : EnvR μS (rst σf (readsA a)) (rsl σ (readsA a)) := rst_env fun p hpr => (J.opnd Z ha hl hp hdc hpr).1
  have hw := want_ok A hE
  have hag : Agr l o (rsl σ (readsA a)) σ := fun d hd => by
    obtain ⟨p, h1, h2⟩ := looks_rd A (Z.sub a ha _ A.get) d hd
    unfold rsl
    rw [if_pos ⟨p, h1, h2⟩]
  rw [← wanted_agr hag, hw]
  cases hg : a.grd with
  | none => rfl
  | some q =>
    obtain ⟨p, b⟩ := q
    show isB b (evA _ (.t p)) = isB b (evA _ (.t p))
    have hpr : p ∈ readsA a := List.mem_append_right _ (by rw [hg]; simp)
    rw [rst_get, if_pos hpr, hrd p hpr]
/-- Names of two allocations are different. -/
theorem nm_lt (HE : FrX ex) (HY : FrX exY) (Z : ZOK P N l os) {a b : AO} {s1 t1 s2 t2 : List AO} {σ1 σ2 : Tr AV} {h1 h2 : AH} (e1 : os = s1 ++ a :: t1) (e2 : os = s2 ++ b :: t2) (r1 : runOps tb ex exY s1 σ0 h0 = some (σ1, h1)) (r2 : runOps tb ex exY s2 σ0 h0 = some (σ2, h2))
    (w1 : wantA σ1 a.grd = true) (ka : a.kd = 4) (la : isAl a.op = true) (hin : a ∈ s2) : h1.nx.nat < h2.nx.nat := by
  obtain ⟨o, A⟩ := chkAO_ok (Z.ao a (by rw [e1]; simp))
  obtain ⟨r, r', rfl⟩ := List.append_of_mem hin
  have es : s1 = r := (split_uniq (e1 ▸ Z.one) (e1.symm.trans (e2.trans (by rw [List.append_assoc, List.cons_append])))).1
  subst es
  rw [ops_app s1 _ _ _ _ _ r1, runOps_cons, w1] at r2
  simp only at r2
  cases hq : opK a.kd a.op tb ex exY σ1 h1 with
  | none => rw [hq] at r2; cases r2
  | some q =>
    rw [hq] at r2
    obtain ⟨v, h3⟩ := q
    rw [ka] at hq
    obtain ⟨B, vf, q1, _⟩ := okA_of (C := CC P) la A.op _ _ _ _ hq
    subst q1
    have := (fr_ops HE HY _ _ _ _ _ r2).nx
    have h3 : (h1.push B).nx.nat = h1.nx.nat + 1 := Pos.nat_succ _
    simp only at this
    omega
theorem nm_ne (HE : FrX ex) (HY : FrX exY) (Z : ZOK P N l os) {a b : AO} {s1 t1 s2 t2 : List AO} {σ1 σ2 : Tr AV} {h1 h2 : AH} (e1 : os = s1 ++ a :: t1) (e2 : os = s2 ++ b :: t2) (r1 : runOps tb ex exY s1 σ0 h0 = some (σ1, h1)) (r2 : runOps tb ex exY s2 σ0 h0 = some (σ2, h2))
    (w1 : wantA σ1 a.grd = true) (w2 : wantA σ2 b.grd = true) (ka : a.kd = 4) (la : isAl a.op = true) (kb : b.kd = 4) (lb : isAl b.op = true) (hne : a ≠ b) : h1.nx ≠ h2.nx := by
  have ha : a ∈ s2 ++ b :: t2 := by rw [← e2, e1]; simp
  rcases List.mem_append.1 ha with h | h
  · intro e
    have := nm_lt HE HY Z e1 e2 r1 r2 w1 ka la h
    rw [e] at this
    exact absurd this (Nat.lt_irrefl _)
  · rcases List.mem_cons.1 h with h | h
    · exact absurd h hne
    · obtain ⟨r, r', rfl⟩ := List.append_of_mem h
      have es : s1 = s2 ++ b :: r := (split_uniq (e1 ▸ Z.one) (e1.symm.trans (e2.trans (by rw [List.append_assoc, List.cons_append])))).1
      intro e
      have := nm_lt HE HY Z e2 e1 r2 r1 w2 kb lb (by rw [es]; simp)
      rw [e] at this
      exact absurd this (Nat.lt_irrefl _)
end
end Go.KX
