/- A region in which the model may be ahead of the machine. -/
import Derived.Test.YtjfffcjjlnmneaaGreatXZ
namespace Go.KX
open Go.RowKit Go.KL

section
variable {tb : Tr AF} {ex exY : Run} {P : Program} {N : Nat} {l : List Oper} {os s t : List AO} {a : AO} {σ0 σA σf : Tr AV} {h0 h h1 h' hf : AH} {μ μS : Mu} {σ σ' : Env} {w : World} {o : Oper} {v : AV}
theorem ix_uniq (Z : ZOK P N l os) {a b : AO} (ha : a ∈ os) (hb : b ∈ os) (e : b.ix = a.ix) : b = a := by
  obtain ⟨s, t, hs⟩ := List.append_of_mem ha
  have one := Z.one
  rw [hs] at hb one
  rcases List.mem_append.1 hb with h | h
  · exact absurd e ((List.pairwise_append.1 one).2.2 b h a (by simp))
  · rcases List.mem_cons.1 h with h | h
    · exact h
    · exact absurd e.symm ((List.pairwise_cons.1 (List.pairwise_append.1 one).2.1).1 b h)
/-- Another slot is not changed. -/
theorem put_slot (A : AOK P N l a o) {q : Pos} (hn : a.dst ≠ some q) (cv : Value) : put' σ o cv (q.nat - 1) = σ (q.nat - 1) := by
  refine put'_ne fun d hd e => ?_
  rcases A.dst with ⟨_, h2⟩ | ⟨p, d', h1, h2, h3, _⟩
  · rw [h2] at hd; cases hd
  · rw [h2] at hd
    have hd := Option.some.inj hd
    have : p = q := Pos.nat_inj (by have := q.nat_pos; have := p.nat_pos; have : p.nat - 1 = q.nat - 1 := h3.symm.trans (hd.trans e); omega)
    subst this
    exact hn h1
/-- One more operation is done in the model: the machine stays where it is. -/
theorem JS.add (Z : ZOK P N l os) {μ0 : Mu} {w0 : World} {S : Nat → Bool} (J : JS tb ex exY P l os σ0 h0 σf hf μ0 w0 S σ w s t σA h σ' μ μS) (ha : a ∈ t) (hS : S a.ix = false) (hfree : fixedK a.kd = false)
    (hdc : ∀ k, k < l.length → S k = true → ∀ j ∈ prI l k, S j = true) (A : AOK P N l a o) {cv : Value} {w' : World} {μT : Mu} (K : Keep w w' Non) (hle : μS.Le μT)
    (hnew : ∀ q c, μT q = some c → μS q = some c ∨ (c.1 = w.heap.size ∧ wanted l σ o = true ∧ a.kd = 4 ∧ ∃ s1 t1 σ1 h1, os = s1 ++ a :: t1 ∧ runOps tb ex exY s1 σ0 h0 = some (σ1, h1) ∧ q = h1.nx))
    (hpa : ∃ p, Pend tb ex exY P l os σ0 h0 σf w0 μ μT (put' σ o cv) w' a o p) :
    JS tb ex exY P l os σ0 h0 σf hf μ0 w0 (fun k => k == a.ix || S k) (put' σ o cv) w' s t σA h σ' μ μT := by
  have hao : a ∈ os := by rw [J.e]; simp [ha]
  have hbo : ∀ b ∈ t, b ∈ os := fun b hb => by rw [J.e]; simp [hb]
  obtain ⟨sa, ta, ea⟩ := List.append_of_mem hao
  have hself : Agr l o σ (put' σ o cv) := by
    intro d hd
    obtain ⟨p, hp, rfl⟩ := looks_rd A (Z.sub a hao _ A.get) d hd
    exact (put_slot A (Z.rd sa a ta ea p hp a (by simp)) cv).symm
  refine ⟨J.e, J.hs, J.hr, fun b hb => by simp [J.inS b hb], fun b hb hh => ?_, ⟨J.E.mono, J.E.new, J.E.keep.step K fun _ _ hn => hn.elim⟩, J.sim.keep K, J.fl, J.env, fun q hq => ?_, J.le.trans hle, fun q c hq => ?_, fun b hb hh => ?_⟩
  · by_cases e : b.ix = a.ix
    · rw [ix_uniq Z hao (hbo b hb) e]; exact hfree
    · exact J.free b hb (by simpa [e] using hh)
  · rw [put_slot A (hq a ha (by simp))]
    exact J.ag q fun b hb hs => hq b hb (by simp [hs])
  · rcases hnew q c hq with h1 | ⟨_, h2, h3, s1, t1, σ1, h1, e1, e2, e3⟩
    · rcases J.nm q c h1 with g | ⟨b, ob, s1, t1, σ1, h1, k1, k2, k3, k4, k5, k6, k7, k8⟩
      · exact .inl g
      · exact .inr ⟨b, ob, s1, t1, σ1, h1, k1, by simp [k2], k3, (wanted_agr (pend_agr Z hdc hao hS (hbo b k1) k2 A k3 cv)).symm.trans k4, k5, k6, k7, k8⟩
    · exact .inr ⟨a, o, s1, t1, σ1, h1, ha, by simp, A.get, (wanted_agr hself).symm.trans h2, h3, e1, e2, e3⟩
  · by_cases e : b.ix = a.ix
    · have := ix_uniq Z hao (hbo b hb) e
      subst this
      exact ⟨o, hpa⟩
    · have hbS : S b.ix = true := by simpa [e] using hh
      obtain ⟨ob, p, Pd⟩ := J.pd b hb hbS
      have hA := pend_agr (σ := σ) Z hdc hao hS (hbo b hb) hbS A Pd.get cv
      have hp : put' σ o cv (p.nat - 1) = σ (p.nat - 1) := by
        refine put_slot A (fun hd => ?_) cv
        have hb' := hbo b hb
        rw [ea] at hb'
        have hb'' : b ∈ sa ++ ta := by
          rcases List.mem_append.1 hb' with h | h
          · exact List.mem_append_left _ h
          · rcases List.mem_cons.1 h with h | h
            · exact absurd (by rw [h]) e
            · exact List.mem_append_right _ h
        exact Z.wr sa a ta ea p hd b hb'' Pd.dst
      have hsb := Z.sel b (hbo b hb) _ Pd.get
      refine ⟨ob, p, Pd.get, Pd.dst, ?_⟩
      rw [hp, ← wanted_agr hA]
      rcases Pd.fact with f | ⟨f, ⟨f1, f2⟩ | ⟨f1, f2, w1, w2, f3⟩ | ⟨f1, f2, w1, o1, s1, t1, σ1, h1, f3, f4, f5, f6, f7, f8, f9⟩⟩
      · exact .inl f
      · exact .inr ⟨f, .inl ⟨f1, f2⟩⟩
      · exact .inr ⟨f, .inr (.inl ⟨f1, f2.mono hle, w1, w2, (Runs.agr hsb hA).1 f3⟩)⟩
      · refine .inr ⟨f, .inr (.inr ⟨f1, f2.mono hle, w1, o1, s1, t1, σ1, h1, (Runs.agr hsb hA).1 f3, (K.block _ (lt_of_some f4) id).trans f4, f5, f6, f7, hle _ _ f8, fun q c hq hc => ?_⟩)⟩
        rcases hnew q c hq with h1 | ⟨h1, _⟩
        · exact f9 q c h1 hc
        · have := lt_of_some f4
          omega
theorem first_zero : ∀ (r : List AO), (∀ b ∈ r, b.kd ≠ 0) ∨ ∃ x b y, r = x ++ b :: y ∧ b.kd = 0 ∧ ∀ c ∈ x, c.kd ≠ 0
  | [] => .inl fun b hb => by simp at hb
  | a :: r => by
    by_cases h0 : a.kd = 0
    · exact .inr ⟨[], a, r, rfl, h0, fun c hc => by simp at hc⟩
    · rcases first_zero r with h | ⟨x, b, y, h1, h2, h3⟩
      · refine .inl fun b hb => ?_
        rcases List.mem_cons.1 hb with rfl | hb
        · exact h0
        · exact h b hb
      · refine .inr ⟨a :: x, b, y, by rw [h1]; rfl, h2, fun c hc => ?_⟩
        rcases List.mem_cons.1 hc with rfl | hc
        · exact h0
        · exact h3 c hc
/-- A free operation. -/
theorem JS.freeOp {σg : Tr AV} (HE : FrX ex) (HY : FrX exY) (Z : ZOK P N l os) (HL : LCK tb ex exY os σ0 h0 σg) (Hg : ∀ a ∈ os, 8 ≤ a.kd → ∀ p, p ∈ readsA a ∨ a.dst = some p → evA σf (.t p) = evA σg (.t p)) {μ0 : Mu} {w0 : World} {S : Nat → Bool} (J : JS tb ex exY P l os σ0 h0 σf hf μ0 w0 S σ w s t σA h σ' μ μS) (ha : a ∈ t) (hS : S a.ix = false) (hfree : fixedK a.kd = false)
    (hp : ∀ j ∈ prI l a.ix, S j = true) (hdc : ∀ k, k < l.length → S k = true → ∀ j ∈ prI l k, S j = true) (A : AOK P N l a o) :
    Step1 P l o σ w fun cv w' => ∃ μT, JS tb ex exY P l os σ0 h0 σf hf μ0 w0 (fun k => k == a.ix || S k) (put' σ o cv) w' s t σA h σ' μ μT := by
  have hao : a ∈ os := by rw [J.e]; simp [ha]
  have hl : a.ix < l.length := (List.getElem?_eq_some_iff.1 A.get).1
  obtain ⟨r, r', et⟩ := List.append_of_mem ha
  have e1 : os = (s ++ r) ++ a :: r' := by rw [J.e, et, List.append_assoc]
  have hsel := Z.sel a hao _ A.get
  have hsub := Z.sub a hao _ A.get
  have hfull := J.full
  rw [e1] at hfull
  obtain ⟨σ1, h1, r1, r2⟩ := can_at hfull
  obtain ⟨hw, hrd⟩ := J.frm Z hao hl hp hdc A e1 r1
  have hrr : runOps tb ex exY r σA h = some (σ1, h1) := by rw [← ops_app s r _ _ _ _ J.hs]; exact r1
  have hself : ∀ cv, Agr l o σ (put' σ o cv) := by
    intro cv d hd
    obtain ⟨p, hp, rfl⟩ := looks_rd A hsub d hd
    exact (put_slot A (Z.rd _ a _ e1 p hp a (by simp)) cv).symm
  obtain ⟨hdn, hkd⟩ : a.dst ≠ none ∧ (a.kd = 1 ∨ a.kd = 3 ∨ (a.kd = 6 ∧ kdA a.op = 3) ∨ (a.kd = 4 ∧ isAl a.op = true) ∨ (8 ≤ a.kd ∧ kdA a.op = 1)) := by
    rcases Z.kd a hao with h | h
    · rw [hfree] at h; cases h
    · exact h
  obtain ⟨p, d, d1, d2, d3, _⟩ : ∃ p d, a.dst = some p ∧ o.dst = some d ∧ d = p.nat - 1 ∧ d < N := by
    rcases A.dst with ⟨h1, _⟩ | h
    · exact absurd h1 hdn
    · exact h
  have eput : ∀ cv, put' σ o cv (p.nat - 1) = cv := fun cv => by unfold put'; rw [d2, d3]; exact upd_same _ _ _
  have hslot : ∀ q ∈ slotsA (opsA a.op), q ∈ readsA a := fun q hq => List.mem_append_left _ hq
  rcases r2 with ⟨g1, v, h2, g2, g3⟩ | ⟨g1, g3⟩
  · have hv : evA σf (.t p) = v := can_val Z e1 g3 d1
    have hw' : wanted l σ o = true := hw.trans g1
    have hwn : ∀ cv, wanted l (put' σ o cv) o = true := fun cv => (wanted_agr (hself cv)).symm.trans hw'
    have hvS : ∀ q ∈ slotsA (opsA a.op), Rv μS (evA σ1 (.t q)) (σ (q.nat - 1)) := fun q hq => by
      rw [← hrd q (hslot q hq)]
      exact (J.opnd Z hao hl hp hdc (hslot q hq)).1
    -- registers alone, and what is loaded
    have clean : (a.kd = 1 ∨ a.kd = 3 ∨ 8 ≤ a.kd) → (∃ cv, Rv μ v cv ∧ Runs P σ w o cv w) → Step1 P l o σ w fun cv w' => ∃ μT, JS tb ex exY P l os σ0 h0 σf hf μ0 w0 (fun k => k == a.ix || S k) (put' σ o cv) w' s t σA h σ' μ μT := by
      rintro hk ⟨cv, c1, c2⟩
      refine .inl ⟨hw', .inr (.inl ⟨cv, w, c2, μS, J.add Z ha hS hfree hdc A (Keep.refl w _) (Mu.Le.refl _) (fun q c hq => .inl hq) ⟨p, A.get, d1, .inr ⟨hwn cv, .inl ⟨hk, ?_⟩⟩⟩⟩)⟩
      rw [hv, eput]
      exact c1
    have hvC : (a.kd = 1 ∨ a.kd = 3 ∨ 8 ≤ a.kd) → ∀ q ∈ slotsA (opsA a.op), Rv μ (evA σ1 (.t q)) (σ (q.nat - 1)) := fun hk q hq => by
      rw [← hrd q (hslot q hq)]
      exact (J.opnd Z hao hl hp hdc (hslot q hq)).2 hk
    have loadC : (a.kd = 1 ∨ a.kd = 3 ∨ 8 ≤ a.kd) → kdA a.op = 1 → ∀ (x : List AO), (∀ b ∈ x, b ∈ t) → ∀ {σ2 : Tr AV} {h3 h4 : AH} {σ3 : Tr AV}, runOps tb ex exY x σA h = some (σ2, h3) → opY a.op tb ex exY σ3 h3 = some (v, h4) → (∀ b ∈ x, b.kd = 0 → False) → (∀ q ∈ readsA a, evA σf (.t q) = evA σ3 (.t q)) → ∃ cv, Rv μ v cv ∧ Runs P σ w o cv w := by
      intro hk k x hx σ2 h3 h4 σ3 hrx gY hx0 hrd3
      have hv3 : ∀ q ∈ slotsA (opsA a.op), Rv μ (evA σ3 (.t q)) (σ (q.nat - 1)) := fun q hq => by
        rw [← hrd3 q (hslot q hq)]
        exact (J.opnd Z hao hl hp hdc (hslot q hq)).2 hk
      have hrs := rst_op gY
      have henv := rst_env hv3
      obtain ⟨_, hold⟩ := old_keep HE HY x _ _ _ _ hrx (fun b hb => Z.ao b (by rw [J.e]; simp [hx b hb])) (fun b hb => by
        rcases Z.kd b (by rw [J.e]; simp [hx b hb]) with h | h
        · unfold fixedK at h
          simp only [Bool.or_eq_true] at h
          rcases h with h | h
          · exact absurd (Nat.eq_of_beq_eq_true h) (hx0 b hb)
          · exact .inl (Nat.eq_of_beq_eq_true h)
        · exact .inr h.2)
      have hm : ∀ b c, μ b = some c → h.m.get b = h3.m.get b := fun b c hb => by
        refine (hold b ?_).symm
        rcases Nat.lt_or_ge b.nat h.nx.nat with hlt | hge
        · exact hlt
        · rw [J.sim.nx b hge] at hb; cases hb
      have hld := load_old k A.op henv hm hrs
      obtain ⟨cv, c1, c2⟩ := free_load (C := CC P) hsel hsub (.inl k) A.op hld J.sim (fun q hq => by rw [rst_get, if_pos hq]; exact hv3 q hq)
      exact ⟨cv, c1, c2⟩
    rcases hkd with hk | hk | ⟨hk, hk2⟩ | ⟨hk, hk2⟩ | ⟨hk, hk2⟩
    · have gY : opY a.op tb ex exY σ1 h1 = some (v, h2) := by rw [hk] at g2; exact g2
      refine clean (.inl hk) ?_
      rcases A.k1 hk with k | k
      · exact loadC (.inl hk) k r (fun b hb => by rw [et]; simp [hb]) hrr gY (fun b hb h0 => by
          have := anc_done hdc hp (Z.ld _ a _ e1 hk b (by simp [hb]) h0)
          have := J.free b (by rw [et]; simp [hb]) this
          rw [h0] at this
          cases this) hrd
      · obtain ⟨cv, c1, c2⟩ := free_pure hsel hsub k A.op gY (hvC (.inl hk))
        exact ⟨cv, c1, c2 w⟩
    · have gY : opY a.op tb ex exY σ1 h1 = some (v, h2) := by rw [hk] at g2; exact g2
      obtain ⟨cv, c1, c2⟩ := free_pure hsel hsub (A.k3 hk) A.op gY (hvC (.inr (.inl hk)))
      exact clean (.inr (.inl hk)) ⟨cv, c1, c2 w⟩
    · have gY : opY a.op tb ex exY σ1 h1 = some (v, h2) := by rw [hk] at g2; exact g2
      obtain ⟨cv, c1, c2⟩ := free_pure hsel hsub hk2 A.op gY hvS
      refine .inl ⟨hw', .inr (.inl ⟨cv, w, c2 w, μS, J.add Z ha hS hfree hdc A (Keep.refl w _) (Mu.Le.refl _) (fun q c hq => .inl hq) ⟨p, A.get, d1, .inr ⟨hwn cv, .inr (.inl ⟨hk, ?_, w, w, ?_⟩)⟩⟩⟩)⟩
      · rw [hv, eput]
        exact c1
      · rw [eput]
        exact (Runs.agr hsel (hself cv)).1 (c2 w)
    · have gY : opY a.op tb ex exY σ1 h1 = some (v, h2) := by rw [hk] at g2; exact g2
      obtain ⟨B, vf, ob, val, _, ev', _, c1, c2, c3⟩ := free_alloc (C := CC P) hsel hsub hk2 A.op gY hvS
      -- the name is free
      have hno : μS h1.nx = none := by
        cases hq : μS h1.nx with
        | none => rfl
        | some c =>
          rcases J.nm _ c hq with g | ⟨b, ob', s2, t2, σ2, h3, k1, k2, k3, k4, k5, k6, k7, k8⟩
          · have := nm_ge HE HY Z J.e J.hs ha e1 r1
            rw [J.sim.nx _ this] at g
            cases g
          · have hbo : b ∈ os := by rw [J.e]; simp [k1]
            have hne : a ≠ b := fun e => by subst e; rw [hS] at k2; cases k2
            obtain ⟨ob2, B2⟩ := chkAO_ok (Z.ao b hbo)
            have hb2 : isAl b.op = true := by
              rcases Z.kd b hbo with hh | ⟨_, hh | hh | hh | hh | hh⟩
              · rw [k5] at hh; exact absurd hh (by decide)
              · omega
              · omega
              · omega
              · exact hh.2
              · omega
            have hwb : wantA σ2 b.grd = true := by
              have hlb : b.ix < l.length := (List.getElem?_eq_some_iff.1 k3).1
              have eo : ob2 = ob' := by have := B2.get; rw [k3] at this; exact (Option.some.inj this).symm
              subst eo
              have := (J.frm Z hbo hlb (hdc _ hlb k2) hdc B2 k6 k7).1
              rw [← this]
              exact k4
            exact absurd k8 (nm_ne HE HY Z e1 k6 r1 k7 g1 hwb hk hk2 k5 hb2 hne)
      have hadd := Mu.add_le (c := (⟨w.heap.size, 0, g0⟩ : Cl)) hno
      have hsz : ∀ q c, μS q = some c → c.1 < w.heap.size := fun q c hq => by
        rcases J.nm q c hq with g | ⟨b, ob', s2, t2, σ2, h3, k1, k2, k3, k4, k5, k6, k7, k8⟩
        · exact J.sim.lt q c g
        · obtain ⟨ob2, p2, Pd⟩ := J.pd b k1 k2
          have eo : ob2 = ob' := by have := Pd.get; rw [k3] at this; exact (Option.some.inj this).symm
          subst eo
          rcases Pd.fact with ⟨f, _⟩ | ⟨_, ⟨f, _⟩ | ⟨f, _⟩ | ⟨_, _, w1, o1, s3, t3, σ3, h4, _, f4, _, f6, f7, f8, _⟩⟩
          · rw [k4] at f; cases f
          · omega
          · omega
          · have es : s3 = s2 := (split_uniq (f6 ▸ Z.one) (f6.symm.trans k6)).1
            subst es
            rw [k7] at f7
            cases f7
            subst k8
            rw [hq] at f8
            cases f8
            exact lt_of_some f4
      refine .inl ⟨hw', .inr (.inl ⟨val w.heap.size, w.alloc ob, c1 w, μS.add h1.nx ⟨w.heap.size, 0, g0⟩, J.add Z ha hS hfree hdc A (alloc_keep w ob) hadd (fun q c hq => ?_) ⟨p, A.get, d1, .inr ⟨hwn _, .inr (.inr ⟨hk, ?_, w, ob, s ++ r, r', σ1, h1, ?_, heap_alloc_new w ob, J.E.keep.size, e1, r1, Mu.add_same _ _ _, fun q c hq hc => ?_⟩)⟩⟩⟩)⟩
      · unfold Mu.add at hq
        split at hq
        · rename_i eq
          cases hq
          exact .inr ⟨rfl, hw', hk, s ++ r, r', σ1, h1, e1, r1, eq⟩
        · exact .inl hq
      · rw [hv, eput, ev']
        exact c3 _ _ _ (Mu.add_same _ _ _)
      · rw [eput]
        exact (Runs.agr hsel (hself _)).1 (c1 w)
      · unfold Mu.add at hq
        split at hq
        · rename_i eq
          exact eq
        · have := hsz q c hq
          omega
    · have gY : opY a.op tb ex exY σ1 h1 = some (v, h2) := opK_ne (by omega) g2
      refine clean (.inr (.inr hk)) ?_
      rcases first_zero r with hz | ⟨x, b, y, er, hb0, hx0⟩
      · exact loadC (.inr (.inr hk)) hk2 r (fun b hb => by rw [et]; simp [hb]) hrr gY (fun b hb h0 => hz b hb h0) hrd
      · have e2 : os = (s ++ x) ++ b :: (y ++ a :: r') := by rw [J.e, et, er]; simp
        have hfull2 := J.full
        rw [e2] at hfull2
        obtain ⟨σ2, h3, r3, _⟩ := can_at hfull2
        have hbt : b ∈ t := by rw [et, er]; simp
        have hanc : cntF y + 8 < a.kd := by
          rcases Z.ld8 _ a _ e1 hk (s ++ x) b y (by rw [er]; simp) hb0 with g | g
          · have := J.free b hbt (anc_done hdc hp g)
            rw [hb0] at this
            cases this
          · exact g
        have hlk := HL _ b _ e2 hb0 _ _ r3
        have hsame := lchk_at y a r' 0 hlk hfree (by omega)
        have hgf : wantA σg a.grd = true := by
          rw [← g1]
          cases hg : a.grd with
          | none => rfl
          | some q =>
            obtain ⟨q, c⟩ := q
            show isB c (evA _ (.t q)) = isB c (evA _ (.t q))
            have hqr : q ∈ readsA a := List.mem_append_right _ (by rw [hg]; simp)
            rw [← Hg a hao hk q (.inl hqr), hrd q hqr]
        unfold ldSame at hsame
        rw [d1] at hsame
        simp only [hgf] at hsame
        split at hsame
        · rename_i v' h5 hq
          have hvv := same_eq hsame
          rw [← Hg a hao hk p (.inr d1), hv] at hvv
          subst hvv
          have hrx : runOps tb ex exY x σA h = some (σ2, h3) := by rw [← ops_app s x _ _ _ _ J.hs]; exact r3
          exact loadC (.inr (.inr hk)) hk2 x (fun b hb => by rw [et, er]; simp [hb]) hrx hq (fun b hb h0 => hx0 b hb h0) (fun q hq => Hg a hao hk q (.inl hq))
        · cases hsame
  · refine .inr ⟨hw.trans g1, μS, J.add Z ha hS hfree hdc A (Keep.refl w _) (Mu.Le.refl _) (fun q c hq => .inl hq) ⟨p, A.get, d1, .inl ⟨(wanted_agr (hself _)).symm.trans (hw.trans g1), eput _, ?_⟩⟩⟩
    exact can_val Z e1 (v := u) g3 d1
/-- The machine catches up. -/
theorem JS.catch (Z : ZOK P N l os) {μ0 : Mu} {w0 : World} {S : Nat → Bool} : ∀ (r : List AO) {s t : List AO} {σA : Tr AV} {h : AH} {σ' : Env} {μ : Mu}, JS tb ex exY P l os σ0 h0 σf hf μ0 w0 S σ w s (r ++ t) σA h σ' μ μS → (∀ a ∈ r, S a.ix = true) →
    ∃ σB hB σ'' μB, JS tb ex exY P l os σ0 h0 σf hf μ0 w0 S σ w (s ++ r) t σB hB σ'' μB μS
  | [], s, t, σA, h, σ', μ, J, _ => ⟨σA, h, σ', μ, by rw [List.append_nil]; exact J⟩
  | a :: r, s, t, σA, h, σ', μ, J, hS => by
    obtain ⟨σB, hB, σ'', μB, J1⟩ := JS.catch1 (t := r ++ t) Z J (hS a (by simp))
    obtain ⟨σC, hC, σ3, μC, J2⟩ := JS.catch Z r J1 fun b hb => hS b (by simp [hb])
    exact ⟨σC, hC, σ3, μC, by rw [show s ++ a :: r = s ++ [a] ++ r by simp]; exact J2⟩
/-- All that is done is caught up: what is left begins anew. -/
theorem JS.anew {A B : List AO} {σm : Tr AV} {h2 : AH} {μ0 : Mu} {w0 : World} {S : Nat → Bool} (J : JS tb ex exY P l A σ0 h0 σm h2 μ0 w0 S σ w s [] σA h σ' μ μS) (hr : runOps tb ex exY B σm h2 = some (σf, hf)) (hB : ∀ b ∈ B, S b.ix = false) :
    Ext μ0 h0.fl.nat w0 μ w ∧ h2.fl = h0.fl ∧ JS tb ex exY P l B σm h2 σf hf μ w S σ w [] B σm h2 σ' μ μ := by
  have hr1 := J.hr
  rw [runOps_nil] at hr1
  cases hr1
  exact ⟨J.E, J.fl, rfl, runOps_nil _ _ _ _ _, hr, fun b hb => (by simp at hb), fun b hb hS => (by rw [hB b hb] at hS; cases hS), Ext.refl μ _ w, J.sim, rfl, J.env, fun q _ => J.ag q fun b hb => (by simp at hb), Mu.Le.refl _, fun q c hq => .inl hq, fun b hb hS => (by rw [hB b hb] at hS; cases hS)⟩
/-- A region by the machine's order. -/
theorem CK.lazy {rr : Option Nat} {Q : Post} {D : List Deferred} {id : Nat} (hm : P.follows .mixedOrders = true) (HC : CallOK (CC P) P tb ex) (HY' : YieldOK (CC P) P exY) (HE : FrX ex) (HY : FrX exY) (ZZ : ∃ A B, ZAll P N l os A B) (HL0 : LCK tb ex exY os σ0 h0 σf)
    (hr : runOps tb ex exY os σ0 h0 = some (σf, hf)) (S : Sim (CC P) P μ h0 w) (hE : EnvR μ σ0 σ)
    (hQ : ∀ μ' w' σ', Ext μ h0.fl.nat w μ' w' → Sim (CC P) P μ' hf w' → EnvR μ' σf σ' → hf.fl = h0.fl → Q D .normal σ' w') : CK rr N P (.region id l.toArray true) Q D σ w := by
  obtain ⟨A, B, ZZ⟩ := ZZ
  obtain ⟨σm, h2, hrA, hrB⟩ := runOps_split A B σ0 h0 _ (ZZ.eq ▸ hr)
  have HL : LCK tb ex exY A σ0 h0 σf ∧ LCK tb ex exY B σm h2 σf := by
    refine ⟨fun s b t e k0 σ1 h1 hs => ?_, lck_triv ZZ.low⟩
    have := HL0 s b (t ++ B) (by rw [ZZ.eq, e]; simp) k0 σ1 h1 hs
    exact lchk_pre t B 0 this
  have Hg : ∀ a ∈ A, 8 ≤ a.kd → ∀ p, p ∈ readsA a ∨ a.dst = some p → evA σm (.t p) = evA σf (.t p) := fun a ha h8 p hp => (runOps_slot B _ _ _ _ hrB p fun b hb => ZZ.far a ha h8 p hp b hb).symm
  have lt : ∀ b ∈ os, b.ix < l.length := fun b hb => by
    rw [ZZ.eq] at hb
    rcases List.mem_append.1 hb with hb | hb
    · obtain ⟨o, A⟩ := chkAO_ok (ZZ.za.ao b hb)
      exact (List.getElem?_eq_some_iff.1 A.get).1
    · obtain ⟨o, A⟩ := chkAO_ok (ZZ.zb.ao b hb)
      exact (List.getElem?_eq_some_iff.1 A.get).1
  -- a step of the second part
  have stepB : ∀ (S1 : Nat → Bool) (a : AO) (σ1 : Env) (w1 : World) (μm : Mu) (wm : World) (s t : List AO) (σA : Tr AV) (h : AH) (σ' : Env) (μ1 μS : Mu) (o : Oper), a ∈ B → S1 a.ix = false → (∀ j ∈ prI l a.ix, S1 j = true) → (∀ k, k < l.length → S1 k = true → ∀ j ∈ prI l k, S1 j = true) → AOK P N l a o →
      JS tb ex exY P l B σm h2 σf hf μm wm S1 σ1 w1 s t σA h σ' μ1 μS → Step1 P l o σ1 w1 fun v w' => ∃ s t σA h σ' μ1 μS, JS tb ex exY P l B σm h2 σf hf μm wm (fun k => k == a.ix || S1 k) (put' σ1 o v) w' s t σA h σ' μ1 μS := by
    intro S1 a σ1 w1 μm wm s t σA h σ' μ1 μS o ha hSi hpi hdc A J
    have hat : a ∈ t := by
      have := ha
      rw [J.e] at this
      rcases List.mem_append.1 this with h | h
      · rw [J.inS a h] at hSi; cases hSi
      · exact h
    cases hf : fixedK a.kd with
    | true =>
      obtain ⟨r, r', et⟩ := List.append_of_mem hat
      rw [et] at J
      obtain ⟨σB, hB, σ'', μB, J1⟩ := JS.catch ZZ.zb r J fun b hb => anc_done hdc hpi (ZZ.zb.anc (s ++ r) a r' (by rw [J.e, List.append_assoc]) hf b (by simp [hb]))
      refine (J1.fixed HC HY' HE HY ZZ.zb hf hSi hdc A).mono ?_
      rintro v w' ⟨σC, hC, σ3, μC, μT, J2⟩
      exact ⟨_, _, _, _, _, _, _, J2⟩
    | false =>
      refine (J.freeOp HE HY ZZ.zb HL.2 (fun _ _ _ _ _ => rfl) hat hSi hf hpi hdc A).mono ?_
      rintro v w' ⟨μT, J2⟩
      exact ⟨_, _, _, _, _, _, _, J2⟩
  -- the first part is done
  have toB : ∀ (S1 : Nat → Bool) (σ1 : Env) (w1 : World) (s t : List AO) (σA : Tr AV) (h : AH) (σ' : Env) (μ1 μS : Mu), (∀ a ∈ A, S1 a.ix = true) → (∀ b ∈ B, S1 b.ix = false) → JS tb ex exY P l A σ0 h0 σm h2 μ w S1 σ1 w1 s t σA h σ' μ1 μS →
      ∃ μm σ', Ext μ h0.fl.nat w μm w1 ∧ h2.fl = h0.fl ∧ JS tb ex exY P l B σm h2 σf hf μm w1 S1 σ1 w1 [] B σm h2 σ' μm μm := by
    intro S1 σ1 w1 s t σA h σ' μ1 μS hA hB J
    have J0 : JS tb ex exY P l A σ0 h0 σm h2 μ w S1 σ1 w1 s (t ++ []) σA h σ' μ1 μS := by rw [List.append_nil]; exact J
    obtain ⟨σB, hB', σ'', μB, J1⟩ := JS.catch ZZ.za t J0 fun b hb => hA b (by rw [J.e]; simp [hb])
    obtain ⟨g1, g2, g3⟩ := J1.anew hrB hB
    exact ⟨μB, σ'', g1, g2, g3⟩
  refine CK.anyRel hm ZZ.za.pr (fun S σ w1 => ((∀ b ∈ B, S b.ix = false) ∧ ∃ s t σA h σ' μ1 μS, JS tb ex exY P l A σ0 h0 σm h2 μ w S σ w1 s t σA h σ' μ1 μS) ∨
    ((∀ a ∈ A, S a.ix = true) ∧ ∃ μm wm, Ext μ h0.fl.nat w μm wm ∧ h2.fl = h0.fl ∧ ∃ s t σA h σ' μ1 μS, JS tb ex exY P l B σm h2 σf hf μm wm S σ w1 s t σA h σ' μ1 μS)) ?_ ?_ ?_
  · exact .inl ⟨fun b _ => rfl, [], A, σ0, h0, σ, μ, μ, rfl, runOps_nil _ _ _ _ _, hrA, fun b hb => (by simp at hb), fun b _ hb => (by cases hb), Ext.drew μ _ w, S.keep (Keep.drew w), rfl, hE, fun _ _ => rfl, Mu.Le.refl _, fun q c hq => .inl hq, fun b _ hb => (by cases hb)⟩
  · rintro S1 i σ1 w1 hi hSi hpi hdc hlt hI
    obtain ⟨a, ha, rfl⟩ := ZZ.all i hi
    rw [ZZ.eq] at ha
    rcases List.mem_append.1 ha with ha | ha
    · obtain ⟨o, AK⟩ := chkAO_ok (ZZ.za.ao a ha)
      refine ⟨o, AK.get, dst_lt AK, ?_⟩
      rcases hI with ⟨hB, s, t, σA, h, σ', μ1, μS, J⟩ | ⟨hA, _⟩
      · have hB' : ∀ b ∈ B, (fun k => k == a.ix || S1 k) b.ix = false := fun b hb => by
          have := (ZZ.cross b hb a ha).1
          simp [hB b hb, Ne.symm this]
        have hat : a ∈ t := by
          have := ha
          rw [J.e] at this
          rcases List.mem_append.1 this with h | h
          · rw [J.inS a h] at hSi; cases hSi
          · exact h
        cases hf : fixedK a.kd with
        | true =>
          obtain ⟨r, r', et⟩ := List.append_of_mem hat
          rw [et] at J
          obtain ⟨σB, hB2, σ'', μB, J1⟩ := JS.catch ZZ.za r J fun b hb => anc_done hdc hpi (ZZ.za.anc (s ++ r) a r' (by rw [J.e, List.append_assoc]) hf b (by simp [hb]))
          refine (J1.fixed HC HY' HE HY ZZ.za hf hSi hdc AK).mono ?_
          rintro v w' ⟨σC, hC, σ3, μC, μT, J2⟩
          exact .inl ⟨hB', _, _, _, _, _, _, _, J2⟩
        | false =>
          refine (J.freeOp HE HY ZZ.za HL.1 Hg hat hSi hf hpi hdc AK).mono ?_
          rintro v w' ⟨μT, J2⟩
          exact .inl ⟨hB', _, _, _, _, _, _, _, J2⟩
      · rw [hA a ha] at hSi
        cases hSi
    · obtain ⟨o, AK⟩ := chkAO_ok (ZZ.zb.ao a ha)
      refine ⟨o, AK.get, dst_lt AK, ?_⟩
      have hA : ∀ c ∈ A, S1 c.ix = true := fun c hc => anc_done hdc hpi (ZZ.cross a ha c hc).2
      rcases hI with ⟨hB, s, t, σA, h, σ', μ1, μS, J⟩ | ⟨_, μm, wm, g1, g2, s, t, σA, h, σ', μ1, μS, J⟩
      · obtain ⟨μm, σ2, g1, g2, J1⟩ := toB S1 σ1 w1 s t σA h σ' μ1 μS hA hB J
        refine (stepB S1 a σ1 w1 _ _ _ _ _ _ _ _ _ o ha hSi hpi hdc AK J1).mono ?_
        rintro v w' ⟨s, t, σA, h, σ', μ1, μS, J2⟩
        exact .inr ⟨fun c hc => by simp [hA c hc], _, _, g1, g2, _, _, _, _, _, _, _, J2⟩
      · refine (stepB S1 a σ1 w1 _ _ _ _ _ _ _ _ _ o ha hSi hpi hdc AK J).mono ?_
        rintro v w' ⟨s, t, σA, h, σ', μ1, μS, J2⟩
        exact .inr ⟨fun c hc => by simp [hA c hc], _, _, g1, g2, _, _, _, _, _, _, _, J2⟩
  · rintro S1 σ1 w1 hall hI
    have hI2 : ∃ μm wm, Ext μ h0.fl.nat w μm wm ∧ h2.fl = h0.fl ∧ ∃ s t σA h σ' μ1 μS, JS tb ex exY P l B σm h2 σf hf μm wm S1 σ1 w1 s t σA h σ' μ1 μS := by
      rcases hI with ⟨hB, s, t, σA, h, σ', μ1, μS, J⟩ | ⟨_, hI⟩
      · obtain ⟨μm, σ2, g1, g2, J1⟩ := toB S1 σ1 w1 s t σA h σ' μ1 μS (fun a ha => hall _ (lt a (by rw [ZZ.eq]; simp [ha]))) hB J
        exact ⟨_, _, g1, g2, _, _, _, _, _, _, _, J1⟩
      · exact hI
    obtain ⟨μm, wm, g1, g2, s, t, σA, h, σ', μ1, μS, J⟩ := hI2
    have J0 : JS tb ex exY P l B σm h2 σf hf μm wm S1 σ1 w1 s (t ++ []) σA h σ' μ1 μS := by rw [List.append_nil]; exact J
    obtain ⟨σB, hB, σ'', μB, J1⟩ := JS.catch ZZ.zb t J0 fun b hb => hall _ (lt b (by rw [ZZ.eq, J.e]; simp [hb]))
    have hr1 := J1.hr
    rw [runOps_nil] at hr1
    cases hr1
    refine hQ μB w1 σ1 (g1.trans (g2 ▸ J1.E)) J1.sim (fun q => ?_) (J1.fl.trans g2)
    rw [J1.ag q fun b hb => by simp at hb]
    exact J1.env q
end
end Go.KX
