/- The machine's frames and memory, held against the model's. -/
import Derived.Test.YtjfffcjjlnmneaaGreatXB
namespace Go.KX
open Go.RowKit Go.KL

/-! ### Frames, operands -/
def EnvR (μ : Mu) (σA : Tr AV) (σ : Env) : Prop := ∀ p : Pos, Rv μ (evA σA (.t p)) (σ (p.nat - 1))
theorem evA_t (σA : Tr AV) (p : Pos) : evA σA (.t p) = (σA.get p).getD u := by
  show Option.rec (motive := fun _ => AV) u (fun v => v) (σA.get p) = _
  cases σA.get p <;> rfl
theorem EnvR.mono {μ μ' : Mu} {σA : Tr AV} {σ : Env} (h : EnvR μ σA σ) (hm : μ.Le μ') : EnvR μ' σA σ := fun p => (h p).mono hm
theorem EnvR.put {μ : Mu} {σA : Tr AV} {σ : Env} (h : EnvR μ σA σ) {p : Pos} {a : AV} {v : Value} (hv : Rv μ a v) : EnvR μ (σA.set p a) (upd σ (p.nat - 1) v) := by
  intro q
  rw [evA_t, Tr.get_set]
  by_cases e : q = p
  · subst e; rw [if_pos rfl, upd_same]; exact hv
  · rw [if_neg e, upd_ne, ← evA_t]
    · exact h q
    · intro e2
      have := p.nat_pos; have := q.nat_pos
      exact e (Pos.nat_inj (by omega))
theorem rv_u (μ : Mu) : Rv μ u undef := ⟨[], rfl, rfl⟩
theorem initA_ok {μ : Mu} : ∀ {args : List AV} {vs : List Value}, RvL μ args vs → ∀ {p : Pos} {t : Tr AV} {σ σ' : Env}, EnvR μ t σ → (∀ i, i < p.nat - 1 → σ' i = σ i) → (∀ j v, vs[j]? = some v → σ' (p.nat - 1 + j) = v) →
    (∀ i, p.nat - 1 + vs.length ≤ i → σ' i = σ i) → EnvR μ (initA args p t) σ'
  | [], _, h, p, t, σ, σ', hE, h1, _, h3 => by
    cases h
    intro q
    have := hE q
    by_cases e : q.nat - 1 < p.nat - 1
    · rw [h1 _ e]; exact this
    · rw [h3 _ (by simp; omega)]; exact this
  | a :: l, _, ⟨v, ws, h1, h2, h3⟩, p, t, σ, σ', hE, g1, g2, g3 => by
    subst h3
    have hp := p.nat_pos
    refine initA_ok h2 (p := p.succ) (hE.put (p := p) h1) ?_ ?_ ?_
    · intro i hi
      rw [Pos.nat_succ] at hi
      by_cases e : i = p.nat - 1
      · subst e; rw [upd_same]; exact g2 0 v rfl
      · rw [upd_ne _ _ e]; exact g1 i (by omega)
    · intro j x hx
      rw [Pos.nat_succ]
      have := g2 (j + 1) x (by simpa using hx)
      rw [← this]; congr 1; omega
    · intro i hi
      rw [Pos.nat_succ] at hi
      rw [upd_ne _ _ (by omega)]
      exact g3 i (by simp; omega)
theorem init_ok {μ : Mu} {args : List AV} {vs : List Value} (h : RvL μ args vs) : EnvR μ (initA args .H .e) (init vs) := by
  have h0 : EnvR μ .e (fun _ => undef) := by intro p; rw [evA_t, Tr.get_e]; exact rv_u μ
  refine initA_ok h (p := .H) h0 (fun i hi => by simp [Pos.nat] at hi) (fun j v hv => ?_) (fun i hi => ?_)
  · simp [init, Pos.nat, hv]
  · simp only [Pos.nat] at hi
    simp [init, List.getElem?_eq_none (by omega : vs.length ≤ i)]

mutual
noncomputable def okc : AV → Value → Bool
  | .int k n, .int k' n' => keq k k' && zeq n n'
  | .bool b, .bool b' => b == b'
  | .pnil, .pointer none => true
  | .snil, .slice none 0 0 => true
  | .mnil, .map none => true
  | .fnil, .nilFunc => true
  | .agg l, .agg vs => okcL l vs.toList
  | .tup l, .tuple vs => okcL l vs.toList
  | _, _ => false
noncomputable def okcL : List AV → List Value → Bool
  | [], [] => true
  | a :: l, v :: vs => okc a v && okcL l vs
  | _, _ => false
end
theorem zeq_eq : ∀ {a b : Int}, zeq a b = true ↔ a = b
  | .ofNat a, .ofNat b => by simp [zeq]; omega
  | .negSucc a, .negSucc b => by simp [zeq]
  | .ofNat a, .negSucc b => by simp [zeq]
  | .negSucc a, .ofNat b => by simp [zeq]
theorem zeq_dec (a b : Int) : zeq a b = decide (a = b) := by
  by_cases h : a = b
  · rw [zeq_eq.2 h]; simp [h]
  · have : zeq a b ≠ true := fun e => h (zeq_eq.1 e)
    simp [h, Bool.eq_false_iff.2 this]
theorem zlt_dec : ∀ (a b : Int), zlt a b = decide (a < b)
  | .ofNat a, .ofNat b => by
    simp only [zlt, Int.ofNat_eq_natCast, Int.ofNat_lt]
    by_cases h : a < b
    · simp [h, Nat.blt_eq]
    · simp [h, Bool.eq_false_iff, Nat.blt_eq]
  | .negSucc a, .negSucc b => by
    simp only [zlt, Int.negSucc_eq]
    by_cases h : b < a
    · have h2 : -((a : Int) + 1) < -((b : Int) + 1) := by omega
      simp [h2, Nat.blt_eq]; exact h
    · have h2 : ¬ -((a : Int) + 1) < -((b : Int) + 1) := by omega
      simp [h2, Bool.eq_false_iff, Nat.blt_eq]; omega
  | .ofNat a, .negSucc b => by
    simp only [zlt, Int.negSucc_eq, Int.ofNat_eq_natCast]
    have h2 : ¬ (a : Int) < -((b : Int) + 1) := by omega
    simp [h2]
  | .negSucc a, .ofNat b => by
    simp only [zlt, Int.negSucc_eq, Int.ofNat_eq_natCast]
    have h2 : -((a : Int) + 1) < (b : Int) := by omega
    simp [h2]
theorem zle_dec (a b : Int) : zle a b = decide (a ≤ b) := by
  rw [zle, zlt_dec]
  by_cases h : a ≤ b
  · simp [h, Int.not_lt.2 h]
  · simp [h, Int.not_le.1 h]
theorem keq_eq {a b : IntKind} (h : keq a b = true) : a = b := by cases a <;> cases b <;> first | rfl | cases h
mutual
theorem okc_ok (μ : Mu) : ∀ {a : AV} {v : Value}, okc a v = true → Rv μ a v
  | .int k n, v, h => by
    cases v <;> simp only [okc, Bool.and_eq_true, Bool.false_eq_true] at h
    rw [keq_eq h.1, zeq_eq.1 h.2]; rfl
  | .bool b, v, h => by
    cases v <;> simp only [okc, beq_iff_eq, Bool.false_eq_true] at h
    subst h; rfl
  | .pnil, v, h => by
    unfold okc at h
    split at h <;> first | rfl | (exfalso; simp_all; done) | simp_all [Rv]
  | .snil, v, h => by
    unfold okc at h
    split at h <;> first | rfl | (exfalso; simp_all; done) | simp_all [Rv]
  | .mnil, v, h => by
    unfold okc at h
    split at h <;> first | rfl | (exfalso; simp_all; done) | simp_all [Rv]
  | .fnil, v, h => by
    cases v <;> simp only [okc, Bool.false_eq_true] at h
    rfl
  | .agg l, v, h => by
    cases v <;> simp only [okc, Bool.false_eq_true] at h
    exact ⟨_, okcL_ok μ h, by simp⟩
  | .tup l, v, h => by
    cases v <;> simp only [okc, Bool.false_eq_true] at h
    exact ⟨_, okcL_ok μ h, by simp⟩
  | .ptr _ _, v, h => by simp [okc] at h
  | .sl _ _ _ _, v, h => by simp [okc] at h
  | .rw _ _ _ _, v, h => by simp [okc] at h
  | .rz _ _, v, h => by simp [okc] at h
  | .map _, v, h => by simp [okc] at h
  | .fn _ _ _, v, h => by simp [okc] at h
  | .yld _, v, h => by simp [okc] at h
theorem okcL_ok (μ : Mu) : ∀ {l : List AV} {vs : List Value}, okcL l vs = true → RvL μ l vs
  | [], [], _ => rfl
  | a :: l, v :: vs, h => by
    simp only [okcL, Bool.and_eq_true] at h
    exact rvL_cons (okc_ok μ h.1) (okcL_ok μ h.2)
  | [], _ :: _, h => by simp [okcL] at h
  | _ :: _, [], h => by simp [okcL] at h
end
noncomputable def chkD : AOd → Operand → Bool
  | .t p, .tmp t => Nat.beq p.nat (t + 1)
  | .c a, .const v => okc a v
  | .c (.fn f [] []), .func g => Nat.beq f.nat (g + 1)
  | _, _ => false
noncomputable def chkDs : List AOd → List Operand → Bool
  | [], [] => true
  | x :: l, y :: k => chkD x y && chkDs l k
  | _, _ => false
theorem chkD_ok {μ : Mu} {σA : Tr AV} {σ : Env} {x : AOd} {y : Operand} (h : chkD x y = true) (hE : EnvR μ σA σ) : Rv μ (evA σA x) (ev σ y) := by
  unfold chkD at h
  split at h
  · rename_i p t
    have := Nat.eq_of_beq_eq_true h
    have h2 := hE p
    rw [this] at h2
    exact h2
  · exact okc_ok μ h
  · rename_i f g
    have := Nat.eq_of_beq_eq_true h
    exact ⟨[], [], rfl, rfl, by show Value.func (.func g) #[] #[] = _; rw [this]; rfl⟩
  · cases h
theorem chkDs_ok {μ : Mu} {σA : Tr AV} {σ : Env} : ∀ {l : List AOd} {k : List Operand}, chkDs l k = true → EnvR μ σA σ → RvL μ (evs σA l) (k.map (ev σ))
  | [], [], _, _ => rfl
  | x :: l, y :: k, h, hE => by
    simp only [chkDs, Bool.and_eq_true] at h
    exact rvL_cons (chkD_ok h.1 hE) (chkDs_ok h.2 hE)
  | [], _ :: _, h, _ => by simp [chkDs] at h
  | _ :: _, [], h, _ => by simp [chkDs] at h

/-! ### Memory -/
def MR {K : Type} (μ : Mu) (l : List (K × AV)) (t : List (K × Value)) : Prop := l.map (·.1) = t.map (·.1) ∧ RvL μ (l.map (·.2)) (t.map (·.2))
def mk2 (k : IntKind) (x : Int × Int) : Value := .agg #[.int k x.1, .int k x.2]
def exC : Ex → Exit
  | .nrm => .normal
  | .exit i => .exit i
  | .ret => .ret
def lsC : LS → LoopState × Option Code
  | .ready => (.ready, none)
  | .busy => (.busy, none)
  | .done .ret => (.done, some .ret)
  | .done (.exit i) => (.done, some (.exit i))
  | .done .nrm => (.ready, none)
/-- What a code of the machine stands for is said later: here only that it is so. -/
abbrev Chk := AC → Code → Nat → Prop
structure LoopR (C : Chk) (μ : Mu) (w : World) (c : Cl) (σA : Tr AV) (t : List Pos) (asg body : AC) (s : LS) : Prop where
  at_ : LoopAt w c.1 c.g.N c.g.σ c.g.t c.g.ac c.g.bc c.g.rb c.g.fn (lsC s).1 (lsC s).2
  env : EnvR μ σA c.g.σ
  ht : t.map Pos.nat = c.g.t.map (· + 1)
  tN : ∀ x ∈ c.g.t, x < c.g.N
  asg : C asg c.g.ac c.g.N
  body : C body c.g.bc c.g.N
def AbR (C : Chk) (P : Program) (μ : Mu) (w : World) (c : Cl) : AB → Prop
  | .cells T l => ∃ vs, RvL μ l vs ∧ Blk w c.1 T vs
  | .row T sz l => ∃ vs, RvL μ l vs ∧ RowAt w (some ⟨c.1, 0, none⟩) c.2 T sz vs
  | .map0 => ∃ ck, w.heap[c.1]? = some (.map #[] ck)
  | .mapI k l => ∃ es ck t, w.heap[c.1]? = some (.map es ck) ∧ MpR es (fun n : Int => Value.int k n) id t ∧ MR μ l t
  | .map2 k l => ∃ es ck t, w.heap[c.1]? = some (.map es ck) ∧ MpR es (mk2 k) id t ∧ MR μ l t
  | .loop σA t asg body s => LoopR C μ w c σA t asg body s
  | .dead => True
def live : AB → Prop
  | .dead => False
  | _ => True
variable {C : Chk} {P : Program} {μ μ' μ'' : Mu} {w w' w'' : World} {h h' h'' : AH}
theorem MR.mono {K : Type} {l : List (K × AV)} {t : List (K × Value)} (h : MR μ l t) (hm : μ.Le μ') : MR μ' l t := ⟨h.1, h.2.mono hm⟩
theorem AbR.mono {c : Cl} {B : AB} (h : AbR C P μ w c B) (hm : μ.Le μ') : AbR C P μ' w c B := by
  cases B with
  | cells T l => obtain ⟨vs, h1, h2⟩ := h; exact ⟨vs, h1.mono hm, h2⟩
  | row T sz l => obtain ⟨vs, h1, h2⟩ := h; exact ⟨vs, h1.mono hm, h2⟩
  | map0 => exact h
  | mapI k l => obtain ⟨es, ck, t, h1, h2, h3⟩ := h; exact ⟨es, ck, t, h1, h2, h3.mono hm⟩
  | map2 k l => obtain ⟨es, ck, t, h1, h2, h3⟩ := h; exact ⟨es, ck, t, h1, h2, h3.mono hm⟩
  | loop σA t asg body s => exact ⟨h.at_, h.env.mono hm, h.ht, h.tN, h.asg, h.body⟩
  | dead => trivial
theorem AbR.lt {c : Cl} {B : AB} (h : AbR C P μ w c B) (hl : live B) : c.1 < w.heap.size := by
  cases B with
  | cells T l => obtain ⟨vs, _, h2⟩ := h; exact h2.lt
  | row T sz l =>
    obtain ⟨vs, _, h2⟩ := h
    obtain ⟨cur, h3, _⟩ := RowAt.cells h2
    exact lt_of_some h3
  | map0 => obtain ⟨ck, h1⟩ := h; exact lt_of_some h1
  | mapI k l => obtain ⟨es, ck, t, h1, _⟩ := h; exact lt_of_some h1
  | map2 k l => obtain ⟨es, ck, t, h1, _⟩ := h; exact lt_of_some h1
  | loop σA t asg body s => exact h.at_.lt
  | dead => exact hl.elim
theorem AbR.keep {c : Cl} {B : AB} {X : Nat → Prop} (h : AbR C P μ w c B) (k : Keep w w' X) (hx : ¬ X c.1) : AbR C P μ w' c B := by
  cases B with
  | cells T l => obtain ⟨vs, h1, h2⟩ := h; exact ⟨vs, h1, h2.keep k hx⟩
  | row T sz l =>
    obtain ⟨vs, h1, h2⟩ := h
    refine ⟨vs, h1, ?_⟩
    obtain ⟨cur, h3, h4⟩ := RowAt.cells h2
    exact .inr ⟨c.1, cur, rfl, (k.block _ (lt_of_some h3) hx).trans h3, h4⟩
  | map0 => obtain ⟨ck, h1⟩ := h; exact ⟨ck, (k.block _ (lt_of_some h1) hx).trans h1⟩
  | mapI _ l => obtain ⟨es, ck, t, h1, h2⟩ := h; exact ⟨es, ck, t, (k.block _ (lt_of_some h1) hx).trans h1, h2⟩
  | map2 _ l => obtain ⟨es, ck, t, h1, h2⟩ := h; exact ⟨es, ck, t, (k.block _ (lt_of_some h1) hx).trans h1, h2⟩
  | loop σA t asg body s => exact ⟨h.at_.keep k hx, h.env, h.ht, h.tN, h.asg, h.body⟩
  | dead => trivial
def img (μ : Mu) (fl : Nat) (c : Nat) : Prop := ∃ p d, μ p = some d ∧ d.1 = c ∧ fl ≤ p.nat
structure Ext (μ : Mu) (fl : Nat) (w : World) (μ' : Mu) (w' : World) : Prop where
  mono : μ.Le μ'
  new : ∀ p c, μ' p = some c → μ p = some c ∨ img μ fl c.1 ∨ w.heap.size ≤ c.1
  keep : Keep w w' (img μ fl)
theorem Ext.refl (μ : Mu) (fl : Nat) (w : World) : Ext μ fl w μ w := ⟨Mu.Le.refl μ, fun _ _ h => .inl h, Keep.refl w _⟩
theorem Ext.img {fl : Nat} {c : Nat} (E : Ext μ fl w μ' w') (hi : img μ' fl c) : KX.img μ fl c ∨ w.heap.size ≤ c := by
  obtain ⟨p, d, h1, rfl, h2⟩ := hi
  rcases E.new p _ h1 with h3 | h3 | h3
  · exact .inl ⟨p, d, h3, rfl, h2⟩
  · exact .inl h3
  · exact .inr h3
theorem Ext.trans {fl : Nat} (E : Ext μ fl w μ' w') (E' : Ext μ' fl w' μ'' w'') : Ext μ fl w μ'' w'' := by
  refine ⟨E.mono.trans E'.mono, fun p c hp => ?_, E.keep.step E'.keep fun i hi hm => ?_⟩
  · rcases E'.new p c hp with h1 | h1 | h1
    · exact E.new p c h1
    · exact .inr (E.img h1)
    · exact .inr (.inr (Nat.le_trans E.keep.size h1))
  · rcases E.img hm with h1 | h1
    · exact h1
    · omega
structure Sim (C : Chk) (P : Program) (μ : Mu) (h : AH) (w : World) : Prop where
  nx : ∀ p, h.nx.nat ≤ p.nat → μ p = none
  lt : ∀ p c, μ p = some c → c.1 < w.heap.size
  inj : ∀ p q a b c d, h.m.get p = some a → h.m.get q = some b → live a → live b → μ p = some c → μ q = some d → c.1 = d.1 → p = q
  at_ : ∀ p b, h.m.get p = some b → ∃ c, μ p = some c ∧ AbR C P μ w c b
theorem Sim.keep (S : Sim C P μ h w) (k : Keep w w' Non) : Sim C P μ h w' :=
  ⟨S.nx, fun p c hp => Nat.lt_of_lt_of_le (S.lt p c hp) k.size, S.inj, fun p b hb => let ⟨c, h1, h2⟩ := S.at_ p b hb; ⟨c, h1, h2.keep k id⟩⟩
theorem Sim.floor (S : Sim C P μ h w) (f : Pos) : Sim C P μ ⟨h.m, h.nx, f⟩ w := ⟨S.nx, S.lt, S.inj, S.at_⟩
/-- What an operation of kind 2 leaves: nothing that was there is written. -/
theorem Sim.non (S : Sim C P μ h w) (E : Ext μ h.nx.nat w μ' w') (fl : Nat) : Keep w w' Non ∧ Ext μ fl w μ' w' := by
  have hn : ∀ c, ¬ img μ h.nx.nat c := fun c ⟨p, k, h1, _, h2⟩ => by rw [S.nx p h2] at h1; cases h1
  refine ⟨E.keep.weak fun i _ hi => hn i hi, E.mono, fun p c hp => ?_, E.keep.weak fun i _ hi => (hn i hi).elim⟩
  rcases E.new p c hp with h1 | h1 | h1
  · exact .inl h1
  · exact (hn _ h1).elim
  · exact .inr (.inr h1)
theorem put_some {h h' : AH} {p : Pos} {B : AB} (hp : h.put p B = some h') : h.fl.nat ≤ p.nat ∧ h' = ⟨h.m.set p B, h.nx, h.fl⟩ := by
  unfold AH.put at hp
  split at hp
  · cases hp
  · rename_i hf
    cases hp
    refine ⟨?_, rfl⟩
    rcases Nat.lt_or_ge p.nat h.fl.nat with hlt | hge
    · rw [(Pos.ltb_iff p h.fl false).2 (.inl hlt)] at hf; cases hf
    · exact hge
theorem Sim.put {p : Pos} {B B' : AB} {c : Cl} (S : Sim C P μ h w) (hp : h.put p B' = some h') (hB : h.m.get p = some B) (hl : live B) (hc : μ p = some c) (K : Keep w w' (· = c.1)) (hB' : AbR C P μ w' c B') :
    Sim C P μ h' w' ∧ Ext μ h.fl.nat w μ w' ∧ h'.fl = h.fl := by
  obtain ⟨hf, rfl⟩ := put_some hp
  refine ⟨⟨S.nx, fun p c hp => Nat.lt_of_lt_of_le (S.lt p c hp) K.size, ?_, ?_⟩, ⟨Mu.Le.refl μ, fun _ _ h => .inl h, K.weak fun i _ e => ⟨p, c, hc, e.symm, hf⟩⟩, rfl⟩
  · intro q r a b d e hq hr la lb hd he hde
    simp only [Tr.get_set] at hq hr
    split at hq <;> split at hr
    · rename_i h1 h2; rw [h1, h2]
    · rename_i h1 h2; exact (S.inj q r B b d e (h1 ▸ hB) hr hl lb hd he hde)
    · rename_i h1 h2; exact (S.inj q r a B d e hq (h2 ▸ hB) la hl hd he hde)
    · exact S.inj q r a b d e hq hr la lb hd he hde
  · intro q b hq
    simp only [Tr.get_set] at hq
    split at hq
    · rename_i h1; subst h1; cases hq; exact ⟨c, hc, hB'⟩
    · rename_i h1
      obtain ⟨d, h2, h3⟩ := S.at_ q b hq
      refine ⟨d, h2, ?_⟩
      by_cases lb : live b
      · exact h3.keep K fun e => h1 (S.inj q p b B d c hq hB lb hl h2 hc e)
      · cases b <;> first | trivial | exact (lb trivial).elim
def Mu.add (μ : Mu) (p : Pos) (c : Cl) : Mu := fun q => if q = p then some c else μ q
theorem Mu.add_le {p : Pos} {c : Cl} (hn : μ p = none) : μ.Le (μ.add p c) := by
  intro q d hq
  unfold Mu.add
  by_cases e : q = p
  · subst e; rw [hn] at hq; cases hq
  · rw [if_neg e]; exact hq
theorem Mu.add_same (μ : Mu) (p : Pos) (c : Cl) : μ.add p c p = some c := by simp [Mu.add]
theorem Sim.push {c : Cl} {B : AB} (S : Sim C P μ h w) (K : Keep w w' Non) (hc : w.heap.size ≤ c.1) (hlt : c.1 < w'.heap.size) (hB : AbR C P (μ.add h.nx c) w' c B) :
    Sim C P (μ.add h.nx c) (h.push B) w' ∧ Ext μ h.fl.nat w (μ.add h.nx c) w' ∧ (h.push B).fl = h.fl ∧ (μ.add h.nx c) h.nx = some c := by
  have hn := S.nx h.nx (Nat.le_refl _)
  have hle := Mu.add_le (c := c) hn
  refine ⟨⟨?_, ?_, ?_, ?_⟩, ⟨hle, ?_, K.weak fun _ _ h => h.elim⟩, rfl, Mu.add_same _ _ _⟩
  · intro p hp
    have hp : h.nx.succ.nat ≤ p.nat := hp
    rw [Pos.nat_succ] at hp
    unfold Mu.add
    rw [if_neg (fun e => by subst e; omega)]
    exact S.nx p (by omega)
  · intro p d hd
    unfold Mu.add at hd
    split at hd
    · cases hd; exact hlt
    · exact Nat.lt_of_lt_of_le (S.lt p d hd) K.size
  · intro p q a b d e hp hq la lb hd he hde
    simp only [AH.push, Tr.get_set] at hp hq
    unfold Mu.add at hd he
    split at hd <;> split at he
    · rename_i h1 h2; rw [h1, h2]
    · cases hd; have := S.lt _ _ he; omega
    · cases he; have := S.lt _ _ hd; omega
    · rename_i h1 h2
      rw [if_neg h1] at hp
      rw [if_neg h2] at hq
      exact S.inj p q a b d e hp hq la lb hd he hde
  · intro p b hb
    simp only [AH.push, Tr.get_set] at hb
    split at hb
    · rename_i h1; subst h1; cases hb; exact ⟨c, Mu.add_same _ _ _, hB⟩
    · obtain ⟨d, h2, h3⟩ := S.at_ p b hb
      exact ⟨d, hle _ _ h2, (h3.mono hle).keep K id⟩
  · intro p d hd
    unfold Mu.add at hd
    split at hd
    · cases hd; exact .inr (.inr hc)
    · exact .inl hd
/-- A row that is appended to: its old name is dead, the new one lies where the old one lay, or in a new block. -/
theorem Sim.move {p : Pos} {B B' : AB} {c d : Cl} (S : Sim C P μ h w) (hp : h.put p .dead = some h') (hB : h.m.get p = some B) (hl : live B) (hc : μ p = some c) (K : Keep w w' (· = c.1)) (hd : d.1 = c.1 ∨ w.heap.size ≤ d.1) (hlt : d.1 < w'.heap.size)
    (hB' : AbR C P (μ.add h.nx d) w' d B') : Sim C P (μ.add h.nx d) (h'.push B') w' ∧ Ext μ h.fl.nat w (μ.add h.nx d) w' ∧ (h'.push B').fl = h.fl ∧ (μ.add h.nx d) h.nx = some d := by
  obtain ⟨hf, rfl⟩ := put_some hp
  have hn := S.nx h.nx (Nat.le_refl _)
  have hle := Mu.add_le (c := d) hn
  have hpn : p ≠ h.nx := fun e => by rw [e, hn] at hc; cases hc
  refine ⟨⟨?_, ?_, ?_, ?_⟩, ⟨hle, ?_, K.weak fun i _ e => ⟨p, c, hc, e.symm, hf⟩⟩, rfl, Mu.add_same _ _ _⟩
  · intro q hq
    have hq : h.nx.succ.nat ≤ q.nat := hq
    rw [Pos.nat_succ] at hq
    unfold Mu.add
    rw [if_neg (fun e => by subst e; omega)]
    exact S.nx q (by omega)
  · intro q e he
    unfold Mu.add at he
    split at he
    · cases he; exact hlt
    · exact Nat.lt_of_lt_of_le (S.lt q e he) K.size
  · have key : ∀ q b e, q ≠ h.nx → ((h.m.set p .dead).set h.nx B').get q = some b → live b → (μ.add h.nx d) q = some e → e.1 ≠ d.1 := by
      intro q b e hq hb lb he hed
      simp only [Tr.get_set, if_neg hq] at hb
      unfold Mu.add at he
      rw [if_neg hq] at he
      split at hb
      · cases hb; exact lb
      · rename_i hqp
        rcases hd with h1 | h1
        · exact hqp (S.inj q p b B e c hb hB lb hl he hc (hed.trans h1))
        · have := S.lt _ _ he; omega
    intro q r a b e f hq hr la lb he hf hef
    by_cases e1 : q = h.nx <;> by_cases e2 : r = h.nx
    · rw [e1, e2]
    · subst e1; rw [Mu.add_same] at he; cases he; exact absurd hef.symm (key r b f e2 hr lb hf)
    · subst e2; rw [Mu.add_same] at hf; cases hf; exact absurd hef (key q a e e1 hq la he)
    · simp only [AH.push, Tr.get_set, if_neg e1, if_neg e2] at hq hr
      unfold Mu.add at he hf
      rw [if_neg e1] at he
      rw [if_neg e2] at hf
      split at hq
      · cases hq; exact la.elim
      · split at hr
        · cases hr; exact lb.elim
        · exact S.inj q r a b e f hq hr la lb he hf hef
  · intro q b hb
    simp only [AH.push, Tr.get_set] at hb
    split at hb
    · rename_i h1; subst h1; cases hb; exact ⟨d, Mu.add_same _ _ _, hB'⟩
    · split at hb
      · rename_i h1 h2; subst h2; cases hb; exact ⟨c, hle _ _ hc, trivial⟩
      · rename_i h1 h2
        obtain ⟨e, h3, h4⟩ := S.at_ q b hb
        refine ⟨e, hle _ _ h3, ?_⟩
        by_cases lb : live b
        · exact (h4.mono hle).keep K fun e' => h2 (S.inj q p b B e c hb hB lb hl h3 hc e')
        · cases b <;> first | trivial | exact (lb trivial).elim
  · intro q e he
    unfold Mu.add at he
    split at he
    · cases he
      rcases hd with h1 | h1
      · exact .inr (.inl ⟨p, c, hc, h1.symm, hf⟩)
      · exact .inr (.inr h1)
    · exact .inl he
end Go.KX
