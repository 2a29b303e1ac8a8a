/- One operation; a region in its order; a region that draws its order, from a tree of orders. -/
import Derived.Test.YtjfffcjjlnmneaaGreatKO
namespace Go.KL
open Go.RowKit

def preds (o : Oper) : List Nat := (o.after.toList.filter (Region.binds .any)).map (·.on)
/-- A call of yield: a round of a range over a function. -/
def Rounds (P : Program) (σ : Env) (w : World) (o : Oper) (R : Value → World → Prop) : Prop :=
  notDefer o.op = true ∧ ∃ l f tmps asg body, (execOp (ev σ) o).run P w = .ok (.round l f tmps asg body) w ∧ RoundIn (WF none) 0 P l f tmps asg body w fun e w' => ∃ v, e = .returned v ∧ R v w'
theorem Rounds.mono {P : Program} {σ : Env} {w : World} {o : Oper} {R R' : Value → World → Prop} (h : Rounds P σ w o R) (hR : ∀ v w', R v w' → R' v w') : Rounds P σ w o R' := by
  obtain ⟨h1, l, f, t, a, b, h2, h3⟩ := h
  exact ⟨h1, l, f, t, a, b, h2, h3.mono fun e w' ⟨v, e1, e2⟩ => ⟨v, e1, hR _ _ e2⟩⟩
theorem roundIn_any {P : Program} {l : Nat} {f : FuncId} {tmps : Array Value} {asg body : Code} {w : World} {R : Ending → World → Prop} (h : RoundIn (WF none) 0 P l f tmps asg body w R) (r : Option Nat) : RoundIn (WF r) 0 P l f tmps asg body w R := h
theorem OK.round {r : Option Nat} {N : Nat} {P : Program} {ops : List Oper} {Q : Post} {D : List Deferred} {σ : Env} {w : World} {rest : List Oper} {o : Oper} {d : Nat} {R : Value → World → Prop}
    (hw : wanted ops σ o = true) (hd : o.dst = some d) (hdN : Nat.blt d N = true) (hr : Rounds P σ w o R) (k : ∀ v w', R v w' → OK r N P ops Q rest D (upd σ d v) w') : OK r N P ops Q (o :: rest) D σ w := by
  intro a ha
  have hdN' : d < N := by simpa [Nat.blt_eq] using hdN
  obtain ⟨h1, l, f, t, as, b, h2, h3⟩ := hr
  simp only [wpListIn, wanted_eq ha ops o hw, if_true]
  refine ⟨fun _ _ => trivial, ?_⟩
  rw [semAt_eq _ _ _ h1, ha.eval, h2]
  simp only [Oper.uponIn, hd]
  refine ⟨fun h => (by cases h), ?_⟩
  refine RoundIn.mono (roundIn_any h3 r) ?_
  rintro e w' ⟨v, rfl, hR⟩
  exact k v w' hR _ (ha.put hdN' _)
theorem OK.roundn {r : Option Nat} {N : Nat} {P : Program} {ops : List Oper} {Q : Post} {D : List Deferred} {σ : Env} {w : World} {rest : List Oper} {o : Oper} {R : Value → World → Prop}
    (hw : wanted ops σ o = true) (hd : o.dst = none) (hr : Rounds P σ w o R) (k : ∀ v w', R v w' → OK r N P ops Q rest D σ w') : OK r N P ops Q (o :: rest) D σ w := by
  intro a ha
  obtain ⟨h1, l, f, t, as, b, h2, h3⟩ := hr
  simp only [wpListIn, wanted_eq ha ops o hw, if_true]
  refine ⟨fun _ _ => trivial, ?_⟩
  rw [semAt_eq _ _ _ h1, ha.eval, h2]
  simp only [Oper.uponIn, hd]
  refine ⟨fun h => (by cases h), ?_⟩
  refine RoundIn.mono (roundIn_any h3 r) ?_
  rintro e w' ⟨v, rfl, hR⟩
  exact k v w' hR _ ha
def Step1 (P : Program) (ops : List Oper) (o : Oper) (σ : Env) (w : World) (R : Value → World → Prop) : Prop :=
  (wanted ops σ o = true ∧ ((o.dst = none ∧ ∃ w', Does P σ w o w' ∧ R undef w') ∨ (∃ v w', Runs P σ w o v w' ∧ R v w') ∨ (∃ f args R', Enters P σ w o f args ∧ Gv P f args w R' ∧ ∀ v w', R' v w' → R v w') ∨ Rounds P σ w o R)) ∨
  (wanted ops σ o = false ∧ R undef w)
theorem Keep.trans' {a b c : World} {X : Nat → Prop} (h : Keep a b X) (k : Keep b c X) : Keep a c X := h.step k fun _ _ h => h
def put' (σ : Env) (o : Oper) (v : Value) : Env :=
  match o.dst with
  | some d => upd σ d v
  | none => σ
/-- What the operation gives whatever is added to memory. -/
def RunsK (P : Program) (σ : Env) (w : World) (o : Oper) (v : Value) : Prop := ∀ w', Keep w w' Non → Runs P σ w' o v w'
inductive Sch
  | nil
  | stop
  | fl (i : Nat) (s : Sch)
  | fx (i : Nat) (s alt : Sch)
def kOf (ks : List Nat) (i : Nat) : Nat := ks.getD i 0
/-- Kinds: 0 fixed; 1 a float that reads memory; 2 fixed, only adds memory; 3 a float of registers; 1004 a float that reads no block that is told behind the kinds; 1005 fixed, changes none but those and adds memory. -/
def isFl (ks : List Nat) (i : Nat) : Bool := kOf ks i == 1 || kOf ks i == 3 || kOf ks i == 1004
def chg (l : List Oper) (ks : List Nat) : List Nat := ks.drop l.length
def InL (T : List Nat) (b : Nat) : Prop := b ∈ T
def mustK (k : Nat) : Bool := Nat.beq k 3 || Nat.beq k 1004
def mustX (k : Nat) : Bool := Nat.beq k 2 || Nat.beq k 1005
def KeepD (l : List Oper) (ks : List Nat) (i : Nat) (w w' : World) : Prop := (kOf ks i = 2 → Keep w w' Non) ∧ (kOf ks i = 1005 → Keep w w' (InL (chg l ks)))
theorem KeepD.of {l : List Oper} {ks : List Nat} {i : Nat} {w w' : World} (h : mustX (kOf ks i) = false ∨ Keep w w' Non) : KeepD l ks i w w' := by
  refine ⟨fun e => ?_, fun e => ?_⟩
  · rcases h with h | h
    · rw [e] at h; cases h
    · exact h
  · rcases h with h | h
    · rw [e] at h; cases h
    · exact h.weak fun _ _ hx => hx.elim
theorem KeepD.refl (l : List Oper) (ks : List Nat) (i : Nat) (w : World) : KeepD l ks i w w := .of (.inr (Keep.refl w _))
def Fl (P : Program) (l : List Oper) (k : Nat) (T : List Nat) (o : Oper) (σ : Env) (w : World) (K : Env → Prop) : Prop :=
  (wanted l σ o = true ∧ ∃ v, (RunsK P σ w o v) ∧ ((k = 3 → ∀ w', Runs P σ w' o v w') ∧ (k = 1004 → ∀ w', Keep w w' (InL T) → Runs P σ w' o v w')) ∧ K (put' σ o v)) ∨ (wanted l σ o = false ∧ K (put' σ o undef))
def OKS (N : Nat) (P : Program) (l : List Oper) (Q : Post) (D : List Deferred) (ks : List Nat) : Sch → Env → World → Prop
  | .nil, σ, w => Q D .normal σ w
  | .stop, _, _ => True
  | .fl i s, σ, w => ∃ o, l[i]? = some o ∧ (∀ d, o.dst = some d → d < N) ∧ Fl P l (kOf ks i) (chg l ks) o σ w fun σ' => OKS N P l Q D ks s σ' w
  | .fx i s alt, σ, w => (∃ o, l[i]? = some o ∧ (∀ d, o.dst = some d → d < N) ∧ Step1 P l o σ w fun v w' => KeepD l ks i w w' ∧ OKS N P l Q D ks s (put' σ o v) w') ∧ OKS N P l Q D ks alt σ w

section
variable {r : Option Nat} {N : Nat} {P : Program} {Q : Post} {D : List Deferred} {l : List Oper} {ks : List Nat}

theorem Step1.mono {ops : List Oper} {o : Oper} {σ : Env} {w : World} {R R' : Value → World → Prop} (h : Step1 P ops o σ w R) (hR : ∀ v w', R v w' → R' v w') : Step1 P ops o σ w R' := by
  rcases h with ⟨h1, ⟨h2, w', h3, h4⟩ | ⟨v, w', h3, h4⟩ | ⟨f, args, Q, h3, h4, h5⟩ | hy⟩ | ⟨h1, h2⟩
  · exact .inl ⟨h1, .inl ⟨h2, w', h3, hR _ _ h4⟩⟩
  · exact .inl ⟨h1, .inr (.inl ⟨v, w', h3, hR _ _ h4⟩)⟩
  · exact .inl ⟨h1, .inr (.inr (.inl ⟨f, args, Q, h3, h4, fun v w' h => hR _ _ (h5 v w' h)⟩))⟩
  · exact .inl ⟨h1, .inr (.inr (.inr (hy.mono hR)))⟩
  · exact .inr ⟨h1, hR _ _ h2⟩
theorem OK.step1 {o : Oper} {rest : List Oper} {σ : Env} {w : World} {R : Value → World → Prop} (hdN : ∀ d, o.dst = some d → d < N) (h : Step1 P l o σ w R)
    (k : ∀ v w', R v w' → OK r N P l Q rest D (put' σ o v) w') : OK r N P l Q (o :: rest) D σ w := by
  unfold put' at k
  cases hd : o.dst with
  | none =>
    rw [hd] at k
    rcases h with ⟨h1, ⟨_, w', h3, h4⟩ | ⟨v, w', h3, h4⟩ | ⟨f, args, Q, h3, h4, h5⟩ | hy⟩ | ⟨h1, h2⟩
    · exact OK.unit h1 hd h3 (k _ _ h4)
    · exact OK.valn h1 hd h3 (k _ _ h4)
    · exact OK.calln h1 hd h3 h4 fun v w' hR => k _ _ (h5 _ _ hR)
    · exact OK.roundn h1 hd hy fun v w' hR => k _ _ hR
    · exact OK.passn h1 hd (k _ _ h2)
  | some d =>
    rw [hd] at k
    have hb : Nat.blt d N = true := by rw [Nat.blt_eq]; exact hdN d hd
    rcases h with ⟨h1, ⟨h2, w', h3, h4⟩ | ⟨v, w', h3, h4⟩ | ⟨f, args, Q, h3, h4, h5⟩ | hy⟩ | ⟨h1, h2⟩
    · rw [hd] at h2; cases h2
    · exact OK.val h1 hd hb h3 (k _ _ h4)
    · exact OK.call h1 hd hb h3 h4 fun v w' hR => k _ _ (h5 _ _ hR)
    · exact OK.round h1 hd hb hy fun v w' hR => k _ _ hR
    · exact OK.pass h1 hd hb (k _ _ h2)
theorem Fl.step1 {k : Nat} {T : List Nat} {o : Oper} {σ : Env} {w : World} {K : Env → Prop} (h : Fl P l k T o σ w K) : Step1 P l o σ w fun v w' => w' = w ∧ K (put' σ o v) := by
  rcases h with ⟨h1, v, h2, _, h3⟩ | ⟨h1, h2⟩
  · exact .inl ⟨h1, .inr (.inl ⟨v, w, h2 w (Keep.refl w _), rfl, h3⟩)⟩
  · exact .inr ⟨h1, rfl, h2⟩
def inOrder : Nat → Sch → Nat → Bool
  | p, .nil, n => p == n
  | _, .stop, _ => false
  | p, .fl i s, n => i == p && inOrder (p + 1) s n
  | p, .fx i s _, n => i == p && inOrder (p + 1) s n
theorem OKS.inOrder (s : Sch) : ∀ (p : Nat) (σ : Env) (w : World), inOrder p s l.length = true → OKS N P l Q D ks s σ w → OK r N P l Q (l.drop p) D σ w := by
  induction s with
  | nil =>
    intro p σ w hs h
    simp only [KL.inOrder, beq_iff_eq] at hs
    subst hs
    rw [List.drop_length]; exact OK.nil h
  | stop => intro p σ w hs h; cases hs
  | fl i s ih =>
    intro p σ w hs h
    simp only [KL.inOrder, Bool.and_eq_true, beq_iff_eq] at hs
    obtain ⟨rfl, hs⟩ := hs
    obtain ⟨o, ho, hN, hf⟩ := h
    obtain ⟨hlt, e⟩ := List.getElem?_eq_some_iff.1 ho
    rw [List.drop_eq_getElem_cons hlt, e]
    exact OK.step1 hN hf.step1 fun v w' ⟨e, hk⟩ => e ▸ ih (i + 1) _ _ hs hk
  | fx i s alt ih _ =>
    intro p σ w hs h
    simp only [KL.inOrder, Bool.and_eq_true, beq_iff_eq] at hs
    obtain ⟨rfl, hs⟩ := hs
    obtain ⟨⟨o, ho, hN, hf⟩, _⟩ := h
    obtain ⟨hlt, e⟩ := List.getElem?_eq_some_iff.1 ho
    rw [List.drop_eq_getElem_cons hlt, e]
    exact OK.step1 hN hf fun v w' ⟨_, hk⟩ => ih (i + 1) _ _ hs hk
theorem CK.reg {id : Nat} {σ : Env} {w : World} (s : Sch) (hs : inOrder 0 s l.length = true) (h : OKS N P l Q D ks s σ w) : CK r N P (.region id l.toArray false) Q D σ w :=
  CK.region (by have := OKS.inOrder (r := r) s 0 σ w hs h; simpa using this)

/-! ### Orders that are drawn -/
def looks (l : List Oper) (o : Oper) : List Nat :=
  (o.op.operands.toList.filterMap fun | .tmp t => some t | _ => none) ++
  (match o.guard with
   | some (g, _) => ((l[g]?).bind (·.dst)).toList
   | none => [])
def selects (o : Oper) : Bool := match o.op with | .select .. => true | _ => false
def apt (l : List Oper) (x y : Oper) : Bool :=
  !selects x && !selects y &&
  (match x.dst with
   | some d => !(looks l y).contains d && y.dst != some d
   | none => true) &&
  (match y.dst with
   | some d => !(looks l x).contains d
   | none => true)
structure Apt (l : List Oper) (x y : Oper) : Prop where
  sx : selects x = false
  sy : selects y = false
  xy : ∀ d, x.dst = some d → d ∉ looks l y
  ne : ∀ d, x.dst = some d → y.dst ≠ some d
  yx : ∀ d, y.dst = some d → d ∉ looks l x
theorem apt_spec {x y : Oper} (h : apt l x y = true) : Apt l x y := by
  unfold apt at h
  simp only [Bool.and_eq_true, Bool.not_eq_true'] at h
  obtain ⟨⟨⟨h1, h2⟩, h3⟩, h4⟩ := h
  refine ⟨h1, h2, fun d hd => ?_, fun d hd => ?_, fun d hd => ?_⟩
  · rw [hd] at h3; simp only [Bool.and_eq_true, Bool.not_eq_true', List.contains_eq_mem, decide_eq_false_iff_not] at h3; exact h3.1
  · rw [hd] at h3; simp only [Bool.and_eq_true, bne_iff_ne] at h3; exact h3.2
  · rw [hd] at h4; simp only [Bool.not_eq_true', List.contains_eq_mem, decide_eq_false_iff_not] at h4; exact h4
theorem Apt.symm {x y : Oper} (h : Apt l x y) : Apt l y x := ⟨h.sy, h.sx, h.yx, fun d hd hx => h.ne d hx hd, h.xy⟩
theorem sel_ne {o : Oper} (h : selects o = false) : ∀ cs b, o.op ≠ .select cs b := by
  intro cs b e; unfold selects at h; rw [e] at h; cases h
theorem put'_ne {σ : Env} {o : Oper} {v : Value} {t : Nat} (h : ∀ d, o.dst = some d → d ≠ t) : put' σ o v t = σ t := by
  unfold put'
  cases hd : o.dst with
  | none => rfl
  | some d => exact upd_ne _ _ (Ne.symm (h d hd))
theorem ev_put' {σ : Env} {x o : Oper} {v : Value} (h : ∀ d, x.dst = some d → d ∉ looks l o) : ∀ y ∈ o.op.operands, ev (put' σ x v) y = ev σ y := by
  intro y hy
  cases y with
  | tmp t =>
    refine put'_ne fun d hd e => h d hd ?_
    subst e
    exact List.mem_append_left _ (List.mem_filterMap.2 ⟨.tmp d, by simpa using hy, rfl⟩)
  | _ => rfl
theorem wanted_put' {σ : Env} {x o : Oper} {v : Value} (h : ∀ d, x.dst = some d → d ∉ looks l o) : wanted l (put' σ x v) o = wanted l σ o := by
  unfold wanted
  cases hg : o.guard with
  | none => rfl
  | some g =>
    obtain ⟨j, b⟩ := g
    simp only
    cases hd : (l[j]?).bind (·.dst) with
    | none => rfl
    | some t =>
      simp only
      rw [put'_ne fun d hx e => h d hx ?_]
      subst e
      unfold looks
      rw [hg]
      simp only [hd]
      simp
theorem run_put' {σ : Env} {x o : Oper} {v : Value} (hs : selects o = false) (h : ∀ d, x.dst = some d → d ∉ looks l o) : execOp (ev (put' σ x v)) o = execOp (ev σ) o :=
  execOp_congr o (sel_ne hs) (ev_put' h)
theorem Runs.put' {σ : Env} {x o : Oper} {u v : Value} {w w' : World} (hs : selects o = false) (h : ∀ d, x.dst = some d → d ∉ looks l o) : Runs P (put' σ x u) w o v w' ↔ Runs P σ w o v w' := by
  unfold Runs; rw [run_put' hs h]
theorem Does.put' {σ : Env} {x o : Oper} {u : Value} {w w' : World} (hs : selects o = false) (h : ∀ d, x.dst = some d → d ∉ looks l o) : Does P (put' σ x u) w o w' ↔ Does P σ w o w' := by
  unfold Does; rw [run_put' hs h]
theorem Enters.put' {σ : Env} {x o : Oper} {u : Value} {w : World} {f : FuncId} {args : List Value} (hs : selects o = false) (h : ∀ d, x.dst = some d → d ∉ looks l o) : Enters P (put' σ x u) w o f args ↔ Enters P σ w o f args := by
  unfold Enters; rw [run_put' hs h]
theorem Rounds.put' {σ : Env} {x o : Oper} {u : Value} {w : World} {R : Value → World → Prop} (hs : selects o = false) (h : ∀ d, x.dst = some d → d ∉ looks l o) : Rounds P (put' σ x u) w o R ↔ Rounds P σ w o R := by
  unfold Rounds; rw [run_put' hs h]
theorem Step1.put' {σ : Env} {x o : Oper} {u : Value} {w : World} {R : Value → World → Prop} (hs : selects o = false) (h : ∀ d, x.dst = some d → d ∉ looks l o) : Step1 P l o (put' σ x u) w R → Step1 P l o σ w R := by
  unfold Step1
  rw [wanted_put' h]
  simp only [Runs.put' hs h, Does.put' hs h, Enters.put' hs h, Rounds.put' hs h]
  exact id
theorem put'_comm {σ : Env} {x y : Oper} (u v : Value) (h : ∀ d, x.dst = some d → y.dst ≠ some d) : KL.put' (KL.put' σ x u) y v = KL.put' (KL.put' σ y v) x u := by
  unfold KL.put'
  cases hx : x.dst with
  | none => rfl
  | some d =>
    cases hy : y.dst with
    | none => rfl
    | some e =>
      have hne : d ≠ e := fun he => h d hx (by rw [hy, he])
      show upd (upd σ d u) e v = upd (upd σ e v) d u
      funext t
      by_cases h1 : t = d
      · subst h1; rw [upd_ne _ _ hne, upd_same, upd_same]
      · rw [upd_ne (upd σ e v) _ h1]
        by_cases h2 : t = e
        · subst h2; rw [upd_same, upd_same]
        · rw [upd_ne _ _ h2, upd_ne _ _ h2, upd_ne _ _ h1]
/-- What a float may be carried over. -/
def Over (k : Nat) (T : List Nat) (w w' : World) : Prop := k = 3 ∨ Keep w w' Non ∨ (k = 1004 ∧ Keep w w' (InL T))
theorem Fl.put' {k : Nat} {T : List Nat} {σ : Env} {x o : Oper} {u : Value} {w w' : World} {K K' : Env → Prop} (hs : selects o = false) (h : ∀ d, x.dst = some d → d ∉ looks l o)
    (hw : Over k T w w') (hK : ∀ v, K (KL.put' σ o v) → K' (KL.put' (KL.put' σ x u) o v)) : Fl P l k T o σ w K → Fl P l k T o (KL.put' σ x u) w' K' := by
  rintro (⟨h1, v, h2, h3, h4⟩ | ⟨h1, h2⟩)
  · refine .inl ⟨by rw [wanted_put' h]; exact h1, v, fun w2 k2 => (Runs.put' hs h).2 ?_, ⟨fun e w2 => (Runs.put' hs h).2 (h3.1 e w2), fun e w2 k2 => (Runs.put' hs h).2 ?_⟩, hK v h4⟩
    · rcases hw with hw | hw | ⟨hw, hk⟩
      · exact h3.1 hw w2
      · exact h2 w2 (hw.non k2)
      · exact h3.2 hw w2 (hk.non k2)
    · rcases hw with hw | hw | ⟨hw, hk⟩
      · exact h3.1 hw w2
      · exact h3.2 e w2 (Keep.trans' (hw.weak fun _ _ hx => hx.elim) k2)
      · exact h3.2 e w2 (Keep.trans' hk k2)
  · exact .inr ⟨by rw [wanted_put' h]; exact h1, hK _ h2⟩

/-- Two operations that look at no memory that changes change places. -/
theorem OKS.swapF {i j : Nat} {s : Sch} {σ : Env} {w : World} (hap : ∀ x y, l[i]? = some x → l[j]? = some y → Apt l x y)
    (h : OKS N P l Q D ks (.fl i (.fl j s)) σ w) : OKS N P l Q D ks (.fl j (.fl i s)) σ w := by
  obtain ⟨x, hx, hxN, hf⟩ := h
  have key : ∀ u, (OKS N P l Q D ks (.fl j s) (put' σ x u) w) → ∃ y, l[j]? = some y ∧ (∀ d, y.dst = some d → d < N) ∧ Fl P l (kOf ks j) (chg l ks) y σ w (fun σ' => ∃ v, σ' = put' σ y v ∧ OKS N P l Q D ks s (put' σ' x u) w) := by
    rintro u ⟨y, hy, hyN, hg⟩
    have A := hap x y hx hy
    refine ⟨y, hy, hyN, ?_⟩
    rcases hg with ⟨h1, v, h2, h3, h4⟩ | ⟨h1, h2⟩
    · exact .inl ⟨by rwa [wanted_put' A.xy] at h1, v, fun w2 k2 => (Runs.put' A.sy A.xy).1 (h2 w2 k2), ⟨fun e w2 => (Runs.put' A.sy A.xy).1 (h3.1 e w2), fun e w2 k2 => (Runs.put' A.sy A.xy).1 (h3.2 e w2 k2)⟩, v, rfl, by rw [← put'_comm u v A.ne]; exact h4⟩
    · exact .inr ⟨by rwa [wanted_put' A.xy] at h1, undef, rfl, by rw [← put'_comm u undef A.ne]; exact h2⟩
  rcases hf with ⟨h1, u, h2, h3, h4⟩ | ⟨h1, h4⟩
  · obtain ⟨y, hy, hyN, hg⟩ := key u h4
    have A := hap x y hx hy
    refine ⟨y, hy, hyN, ?_⟩
    have go : ∀ v, OKS N P l Q D ks s (put' (put' σ y v) x u) w → OKS N P l Q D ks (.fl i s) (put' σ y v) w := fun v hv =>
      ⟨x, hx, hxN, .inl ⟨by rw [wanted_put' A.yx]; exact h1, u, fun w2 k2 => (Runs.put' A.sx A.yx).2 (h2 w2 k2), ⟨fun e w2 => (Runs.put' A.sx A.yx).2 (h3.1 e w2), fun e w2 k2 => (Runs.put' A.sx A.yx).2 (h3.2 e w2 k2)⟩, hv⟩⟩
    rcases hg with ⟨g1, v, g2, g3, v', e, g4⟩ | ⟨g1, v', e, g2⟩
    · exact .inl ⟨g1, v, g2, g3, go v g4⟩
    · exact .inr ⟨g1, go undef g2⟩
  · obtain ⟨y, hy, hyN, hg⟩ := key undef h4
    have A := hap x y hx hy
    refine ⟨y, hy, hyN, ?_⟩
    have go : ∀ v, OKS N P l Q D ks s (put' (put' σ y v) x undef) w → OKS N P l Q D ks (.fl i s) (put' σ y v) w := fun v hv =>
      ⟨x, hx, hxN, .inr ⟨by rw [wanted_put' A.yx]; exact h1, hv⟩⟩
    rcases hg with ⟨g1, v, g2, g3, v', e, g4⟩ | ⟨g1, v', e, g2⟩
    · exact .inl ⟨g1, v, g2, g3, go v g4⟩
    · exact .inr ⟨g1, go undef g2⟩
/-- A fixed operation goes ahead of one that is not disturbed by it. -/
theorem OKS.swapX {i j : Nat} {s : Sch} {σ : Env} {w : World} (hap : ∀ x y, l[i]? = some x → l[j]? = some y → Apt l x y) (hk : kOf ks j = 2 ∨ kOf ks i = 3 ∨ (kOf ks i = 1004 ∧ kOf ks j = 1005))
    (h : OKS N P l Q D ks (.fl i (.fx j s .stop)) σ w) : OKS N P l Q D ks (.fx j (.fl i s) .stop) σ w := by
  obtain ⟨x, hx, hxN, hf⟩ := h
  have key : ∀ u, (OKS N P l Q D ks (.fx j s .stop) (put' σ x u) w) → ∃ y, l[j]? = some y ∧ Apt l x y ∧ (∀ d, y.dst = some d → d < N) ∧ Step1 P l y σ w fun v w' => KeepD l ks j w w' ∧ OKS N P l Q D ks s (put' (put' σ x u) y v) w' := by
    rintro u ⟨⟨y, hy, hyN, hg⟩, _⟩
    have A := hap x y hx hy
    exact ⟨y, hy, A, hyN, Step1.put' A.sy A.xy hg⟩
  have fin : ∀ u y, l[j]? = some y → Apt l x y → (∀ d, y.dst = some d → d < N) → (Step1 P l y σ w fun v w' => KeepD l ks j w w' ∧ OKS N P l Q D ks s (put' (put' σ x u) y v) w') →
      (∀ v w', Over (kOf ks i) (chg l ks) w w' → OKS N P l Q D ks s (put' (put' σ y v) x u) w' → OKS N P l Q D ks (.fl i s) (put' σ y v) w') → OKS N P l Q D ks (.fx j (.fl i s) .stop) σ w := by
    intro u y hy A hyN hg hx2
    refine ⟨⟨y, hy, hyN, hg.mono fun v w' ⟨hk', hO⟩ => ⟨hk', hx2 v w' ?_ (by rw [← put'_comm u v A.ne]; exact hO)⟩⟩, trivial⟩
    rcases hk with e | e | ⟨e, e2⟩
    · exact .inr (.inl (hk'.1 e))
    · exact .inl e
    · exact .inr (.inr ⟨e, hk'.2 e2⟩)
  rcases hf with ⟨h1, u, h2, h3, h4⟩ | ⟨h1, h4⟩
  · obtain ⟨y, hy, A, hyN, hg⟩ := key u h4
    refine fin u y hy A hyN hg fun v w' hw hO => ⟨x, hx, hxN, .inl ⟨by rw [wanted_put' A.yx]; exact h1, u, fun w2 k2 => (Runs.put' A.sx A.yx).2 ?_, ⟨fun e w2 => (Runs.put' A.sx A.yx).2 (h3.1 e w2), fun e w2 k2 => (Runs.put' A.sx A.yx).2 ?_⟩, hO⟩⟩
    · rcases hw with e | hw | ⟨e, hw⟩
      · exact h3.1 e w2
      · exact h2 w2 (hw.non k2)
      · exact h3.2 e w2 (hw.non k2)
    · rcases hw with e' | hw | ⟨_, hw⟩
      · exact h3.1 e' w2
      · exact h3.2 e w2 (Keep.trans' (hw.weak fun _ _ hx => hx.elim) k2)
      · exact h3.2 e w2 (Keep.trans' hw k2)
  · obtain ⟨y, hy, A, hyN, hg⟩ := key undef h4
    exact fin undef y hy A hyN hg fun v w' hw hO => ⟨x, hx, hxN, .inr ⟨by rw [wanted_put' A.yx]; exact h1, hO⟩⟩

/-! The tree of orders, and that it covers all. -/
def apI (l : List Oper) (i j : Nat) : Bool := match l[i]?, l[j]? with | some x, some y => apt l x y | _, _ => false
def prI (l : List Oper) (i : Nat) : List Nat := match l[i]? with | some o => preds o | none => []
def isAnc (l : List Oper) : Nat → Nat → Nat → Bool
  | 0, _, _ => false
  | n + 1, x, i => (prI l i).contains x || (prI l i).any fun p => isAnc l n x p
def late (l : List Oper) (ks F X : List Nat) (y : Nat) : Bool := (prI l y).any fun p => if isFl ks p then !F.contains p else !X.contains p
def heads : Sch → List Nat
  | .fx i _ a => i :: heads a
  | _ => []
def good (l : List Oper) (ks : List Nat) : Bool → List Nat → List Nat → Sch → Bool
  | false, F, X, .nil => (List.range l.length).all fun y => F.contains y || X.contains y
  | true, _, _, .nil => false
  | m, _, _, .stop => m
  | true, _, _, .fl _ _ => false
  | false, F, X, .fl i s => isFl ks i && Nat.blt i l.length && !F.contains i && F.all (fun x => apI l x i || isAnc l 12 x i) && good l ks false (F ++ [i]) X s
  | m, F, X, .fx i s a => (m || (List.range l.length).all fun y => F.contains y || X.contains y || (heads (.fx i s a)).contains y || late l ks F X y) &&
      !isFl ks i && Nat.blt i l.length && !X.contains i && F.all (fun x => (apI l x i && (kOf ks i == 2 || (kOf ks x == 3 || (kOf ks x == 1004 && kOf ks i == 1005)))) || isAnc l 12 x i) && good l ks false F (i :: X) s && good l ks true F X a
def ordChk (l : List Oper) (ks : List Nat) (s : Sch) : Bool := (List.range l.length).all (fun i => (prI l i).all (Nat.blt · i)) && good l ks false [] [] s

def fls (s : Sch) (pend : List Nat) : Sch := pend.foldr Sch.fl s
theorem apI_spec {i j : Nat} (h : apI l i j = true) : ∀ x y, l[i]? = some x → l[j]? = some y → Apt l x y := by
  intro x y hx hy
  unfold apI at h
  rw [hx, hy] at h
  exact apt_spec h
theorem OKS.flMono {i : Nat} {s t : Sch} {σ : Env} {w : World} (hst : ∀ σ, OKS N P l Q D ks s σ w → OKS N P l Q D ks t σ w) (h : OKS N P l Q D ks (.fl i s) σ w) : OKS N P l Q D ks (.fl i t) σ w := by
  obtain ⟨o, ho, hN, h1 | h1⟩ := h
  · obtain ⟨h1, v, h2, h3, h4⟩ := h1
    exact ⟨o, ho, hN, .inl ⟨h1, v, h2, h3, hst _ h4⟩⟩
  · exact ⟨o, ho, hN, .inr ⟨h1.1, hst _ h1.2⟩⟩
theorem OKS.flsMono {s t : Sch} {w : World} (hst : ∀ σ, OKS N P l Q D ks s σ w → OKS N P l Q D ks t σ w) : ∀ (pend : List Nat) (σ : Env), OKS N P l Q D ks (fls s pend) σ w → OKS N P l Q D ks (fls t pend) σ w
  | [], σ, h => hst σ h
  | _ :: pend, _, h => OKS.flMono (fun σ => OKS.flsMono hst pend σ) h
theorem OKS.frontF {i : Nat} {s : Sch} {w : World} {ys : List Nat} : ∀ (xs : List Nat) (σ : Env), (∀ x ∈ xs, apI l x i = true) → OKS N P l Q D ks (fls s (xs ++ i :: ys)) σ w → OKS N P l Q D ks (.fl i (fls s (xs ++ ys))) σ w
  | [], _, _, h => h
  | x :: xs, _, ha, h => OKS.swapF (apI_spec (ha x (by simp))) (OKS.flMono (fun σ hσ => OKS.frontF xs σ (fun y hy => ha y (by simp [hy])) hσ) h)
theorem OKS.frontX {i : Nat} {s : Sch} {w : World} : ∀ (xs : List Nat) (σ : Env), (∀ x ∈ xs, apI l x i = true ∧ (kOf ks i = 2 ∨ kOf ks x = 3 ∨ (kOf ks x = 1004 ∧ kOf ks i = 1005))) → OKS N P l Q D ks (fls (.fx i s .stop) xs) σ w → OKS N P l Q D ks (.fx i (fls s xs) .stop) σ w
  | [], _, _, h => h
  | x :: xs, _, ha, h => OKS.swapX (apI_spec (ha x (by simp)).1) (ha x (by simp)).2 (OKS.flMono (fun σ hσ => OKS.frontX xs σ (fun y hy => ha y (by simp [hy])) hσ) h)
structure HeadOK (l : List Oper) (ks F X : List Nat) (i : Nat) : Prop where
  fl : isFl ks i = false
  lt : i < l.length
  nx : i ∉ X
  pr : ∀ x ∈ F, (apI l x i = true ∧ (kOf ks i = 2 ∨ kOf ks x = 3 ∨ (kOf ks x = 1004 ∧ kOf ks i = 1005))) ∨ isAnc l 12 x i = true
theorem good_fx {m : Bool} {F X : List Nat} {i : Nat} {s a : Sch} (h : good l ks m F X (.fx i s a) = true) :
    HeadOK l ks F X i ∧ good l ks false F (i :: X) s = true ∧ good l ks true F X a = true ∧ (m = false → ∀ y, y < l.length → y ∈ F ∨ y ∈ X ∨ y ∈ heads (.fx i s a) ∨ late l ks F X y = true) := by
  have h : ((m || (List.range l.length).all fun y => F.contains y || X.contains y || (heads (.fx i s a)).contains y || late l ks F X y) &&
      !isFl ks i && Nat.blt i l.length && !X.contains i && F.all (fun x => (apI l x i && (kOf ks i == 2 || (kOf ks x == 3 || (kOf ks x == 1004 && kOf ks i == 1005)))) || isAnc l 12 x i) && good l ks false F (i :: X) s && good l ks true F X a) = true := by
    cases m <;> exact h
  simp only [Bool.and_eq_true, Bool.not_eq_true', List.all_eq_true, Bool.or_eq_true, beq_iff_eq, List.contains_eq_mem, decide_eq_true_eq, decide_eq_false_iff_not, Nat.blt_eq] at h
  obtain ⟨⟨⟨⟨⟨⟨h1, h2⟩, h3⟩, h4⟩, h5⟩, h6⟩, h7⟩ := h
  refine ⟨⟨h2, h3, h4, h5⟩, h6, h7, fun e y hy => ?_⟩
  subst e
  rcases h1 with h1 | h1
  · cases h1
  · rcases h1 y (List.mem_range.2 hy) with ((h | h) | h) | h
    · exact .inl h
    · exact .inr (.inl h)
    · exact .inr (.inr (.inl h))
    · exact .inr (.inr (.inr h))
theorem good_fl {F X : List Nat} {i : Nat} {s : Sch} (h : good l ks false F X (.fl i s) = true) :
    isFl ks i = true ∧ i < l.length ∧ i ∉ F ∧ (∀ x ∈ F, apI l x i = true ∨ isAnc l 12 x i = true) ∧ good l ks false (F ++ [i]) X s = true := by
  simp only [good, Bool.and_eq_true, Bool.not_eq_true', List.all_eq_true, Bool.or_eq_true, List.contains_eq_mem, decide_eq_false_iff_not, Nat.blt_eq] at h
  obtain ⟨⟨⟨⟨h1, h2⟩, h3⟩, h4⟩, h5⟩ := h
  exact ⟨h1, h2, h3, h4, h5⟩
theorem head_pick {F X : List Nat} {i : Nat} : ∀ (c : Sch), good l ks true F X c = true → i ∈ heads c →
    ∃ s, HeadOK l ks F X i ∧ good l ks false F (i :: X) s = true ∧ ∀ σ w, OKS N P l Q D ks c σ w → OKS N P l Q D ks (.fx i s .stop) σ w
  | .nil, h, _ => by cases h
  | .stop, _, hi => by cases hi
  | .fl _ _, h, _ => by cases h
  | .fx j s a, h, hi => by
    obtain ⟨g1, g2, g3, _⟩ := good_fx h
    rcases List.mem_cons.1 hi with e | hi
    · subst e; exact ⟨s, g1, g2, fun σ w hO => ⟨hO.1, trivial⟩⟩
    · obtain ⟨s', a1, a2, a3⟩ := head_pick a g3 hi
      exact ⟨s', a1, a2, fun σ w hO => a3 σ w hO.2⟩

structure Inv (l : List Oper) (ks : List Nat) (listed : Array Bool) (F X pend : List Nat) (s : Sch) : Prop where
  g : good l ks false F X s = true
  on : ∀ i, i < l.length → (listed.getD i false = true ↔ (i ∈ F ∧ i ∉ pend) ∨ i ∈ X)
  sub : ∀ x ∈ pend, x ∈ F ∧ x < l.length
  nd : pend.Nodup
  pw : pend.Pairwise fun x y => apI l x y = true ∨ isAnc l 12 x y = true
  dc : ∀ i, i < l.length → listed.getD i false = true → ∀ j ∈ prI l i, listed.getD j false = true
  fF : ∀ x ∈ F, isFl ks x = true
  fX : ∀ x ∈ X, isFl ks x = false
def notFl : Sch → Bool
  | .fl _ _ => false
  | _ => true
theorem absorb {listed : Array Bool} {X : List Nat} {σ : Env} {w : World} : ∀ (s : Sch) (F pend : List Nat), Inv l ks listed F X pend s → OKS N P l Q D ks (fls s pend) σ w →
    ∃ F' pend' s', notFl s' = true ∧ Inv l ks listed F' X pend' s' ∧ OKS N P l Q D ks (fls s' pend') σ w
  | .nil, F, pend, h, hO => ⟨F, pend, .nil, rfl, h, hO⟩
  | .stop, F, pend, h, hO => ⟨F, pend, .stop, rfl, h, hO⟩
  | .fx i s a, F, pend, h, hO => ⟨F, pend, .fx i s a, rfl, h, hO⟩
  | .fl i s, F, pend, h, hO => by
    obtain ⟨g1, g2, g3, g4, g5⟩ := good_fl h.g
    refine absorb s (F ++ [i]) (pend ++ [i]) ⟨g5, fun j hj => ?_, fun x hx => ?_, ?_, ?_, h.dc, fun x hx => ?_, h.fX⟩ (by simpa [fls] using hO)
    · rw [h.on j hj]
      simp only [List.mem_append, List.mem_singleton]
      constructor
      · rintro (⟨h1, h2⟩ | h1)
        · exact .inl ⟨.inl h1, fun hc => hc.elim h2 fun e => g3 (e ▸ h1)⟩
        · exact .inr h1
      · rintro (⟨h1 | h1, h2⟩ | h1)
        · exact .inl ⟨h1, fun hc => h2 (.inl hc)⟩
        · exact absurd (.inr h1) h2
        · exact .inr h1
    · simp only [List.mem_append, List.mem_singleton] at hx ⊢
      rcases hx with hx | rfl
      · exact ⟨.inl (h.sub x hx).1, (h.sub x hx).2⟩
      · exact ⟨.inr rfl, g2⟩
    · rw [List.nodup_append]
      refine ⟨h.nd, by simp, fun x hx y hy e => ?_⟩
      simp only [List.mem_singleton] at hy
      subst hy; subst e
      exact g3 (h.sub _ hx).1
    · rw [List.pairwise_append]
      refine ⟨h.pw, by simp, fun x hx y hy => ?_⟩
      simp only [List.mem_singleton] at hy
      subst hy
      exact g4 x (h.sub x hx).1
    · simp only [List.mem_append, List.mem_singleton] at hx
      rcases hx with hx | rfl
      · exact h.fF x hx
      · exact g1

theorem Rep.put' {a : Act} {σ : Env} (h : Rep N D a σ) {o : Oper} (hd : ∀ d, o.dst = some d → d < N) (v : Value) : Rep N D (a.put o.dst v) (KL.put' σ o v) := by
  unfold KL.put'
  cases ho : o.dst with
  | none => exact h
  | some d => exact h.put (hd d ho) v
theorem wpOpIn_of {i : Nat} {o : Oper} {Q : Exit → Act → World → Prop} {K : Act → World → Prop} {a : Act} {w : World} {σ : Env} (hi : l[i]? = some o) (ha : Rep N D a σ) {R : Value → World → Prop} (hd : ∀ d, o.dst = some d → d < N)
    (h : Step1 P l o σ w R) (hK : ∀ v w' a', Rep N D a' (KL.put' σ o v) → R v w' → K a' w') : wpOpIn (WF r) 0 P l.toArray Q i K a w := by
  unfold wpOpIn
  simp only [List.getElem?_toArray, hi]
  rcases h with ⟨hw, h⟩ | ⟨hw, hR⟩
  · simp only [wanted_eq ha l o hw, if_true]
    refine ⟨fun _ _ => trivial, ?_⟩
    rcases h with ⟨hdn, w', hr, hR⟩ | ⟨v, w', hr, hR⟩ | ⟨f, args, R', he, hg, hR⟩ | ⟨y1, l', f, t, as, b, y2, y3⟩
    · rw [semAt_eq _ _ _ hr.1, ha.eval, hr.2]
      simp only [Oper.uponIn]
      exact hK undef w' _ (ha.put' hd undef) hR
    · rw [semAt_eq _ _ _ hr.1, ha.eval, hr.2]
      simp only [Oper.uponIn]
      exact hK v w' _ (ha.put' hd v) hR
    · rw [semAt_eq _ _ _ he.1, ha.eval, he.2]
      simp only [Oper.uponIn]
      refine ⟨fun h => (by cases h), ?_⟩
      refine CallsIn.mono (hg.callsIn r) ?_
      rintro e w' ⟨v, rfl, hv⟩
      exact hK v w' _ (ha.put' hd v) (hR v w' hv)
    · rw [semAt_eq _ _ _ y1, ha.eval, y2]
      simp only [Oper.uponIn]
      refine ⟨fun h => (by cases h), ?_⟩
      refine RoundIn.mono (roundIn_any y3 r) ?_
      rintro e w' ⟨v, rfl, hv⟩
      exact hK v w' _ (ha.put' hd v) hv
  · simp only [unwanted_eq ha l o hw, Bool.false_eq_true, if_false]
    refine ⟨fun _ _ => trivial, ?_⟩
    exact hK _ w _ (ha.put' hd _) hR
theorem anc_listed {listed : Array Bool} (hpr : ∀ i, i < l.length → ∀ j ∈ prI l i, j < i) (hdc : ∀ i, i < l.length → listed.getD i false = true → ∀ j ∈ prI l i, listed.getD j false = true) :
    ∀ (n x i : Nat), i < l.length → isAnc l n x i = true → (∀ j ∈ prI l i, listed.getD j false = true) → listed.getD x false = true
  | 0, _, _, _, h, _ => by cases h
  | n + 1, x, i, hi, h, hp => by
    simp only [isAnc, Bool.or_eq_true, List.contains_eq_mem, decide_eq_true_eq, List.any_eq_true] at h
    rcases h with h | ⟨p, hp1, hp2⟩
    · exact hp x h
    · have hplt := Nat.lt_trans (hpr i hi p hp1) hi
      exact anc_listed hpr hdc n x p hplt hp2 (hdc p hplt (hp p hp1))
theorem ready_spec {listed : Array Bool} (hsz : listed.size = l.length) {i : Nat} : i ∈ Region.ready .any l.toArray listed ↔ i < l.length ∧ listed.getD i false = false ∧ ∀ j ∈ prI l i, listed.getD j false = true := by
  unfold Region.ready prI preds
  simp only [List.mem_filter, List.mem_range, List.size_toArray, Bool.and_eq_true, Bool.not_eq_true']
  have gd : i < l.length → listed.getD i true = listed.getD i false := by
    intro h2
    simp only [Array.getD_eq_getD_getElem?]
    rw [Array.getElem?_eq_getElem (by omega)]
    rfl
  constructor
  · rintro ⟨hlt, h1, h2⟩
    have hi : l[i]? = some (l[i]'hlt) := List.getElem?_eq_getElem hlt
    refine ⟨hlt, (gd hlt) ▸ h1, ?_⟩
    rw [hi]
    simp only [List.getElem?_toArray, hi, Option.map_some, Option.getD_some, Array.all_eq_true_iff_forall_mem] at h2
    intro j hj
    simp only [List.mem_map, List.mem_filter] at hj
    obtain ⟨e, ⟨he, hb⟩, rfl⟩ := hj
    have := h2 e (by simpa using he)
    simpa [hb] using this
  · rintro ⟨hlt, h1, h2⟩
    have hi : l[i]? = some (l[i]'hlt) := List.getElem?_eq_getElem hlt
    refine ⟨hlt, (gd hlt).trans h1, ?_⟩
    rw [hi] at h2
    simp only [List.getElem?_toArray, hi, Option.map_some, Option.getD_some, Array.all_eq_true_iff_forall_mem]
    intro e he
    cases hb : Region.binds .any e with
    | false => rfl
    | true =>
      have := h2 e.on (by simp only [List.mem_map, List.mem_filter]; exact ⟨e, ⟨by simpa using he, hb⟩, rfl⟩)
      simp [this]
theorem getD_set {listed : Array Bool} {i j : Nat} (h : i < listed.size) : (listed.setIfInBounds i true).getD j false = true ↔ (j = i ∨ listed.getD j false = true) := by
  simp only [Array.getD_eq_getD_getElem?, Array.getElem?_setIfInBounds]
  by_cases e : i = j
  · subst e; simp [h]
  · simp [e, Ne.symm e]
theorem count_set (listed : Array Bool) (i : Nat) (hi : i < listed.size) (hl : listed.getD i false = false) : ((listed.setIfInBounds i true).toList.filter (! ·)).length < (listed.toList.filter (! ·)).length := by
  have hi' : i < listed.toList.length := by simpa using hi
  have hl' : listed.toList[i] = false := by
    simp only [Array.getD_eq_getD_getElem?] at hl
    rw [Array.getElem?_eq_getElem hi] at hl
    simpa using hl
  rw [Array.toList_setIfInBounds]
  generalize listed.toList = L at *
  clear hl hi
  induction L generalizing i with
  | nil => simp at hi'
  | cons b L ih =>
    cases i with
    | zero => simp only [List.getElem_cons_zero] at hl'; subst hl'; simp
    | succ i =>
      have := ih i (by simpa using hi') (by simpa using hl')
      simp only [List.set_cons_succ, List.filter_cons]
      split <;> simp <;> exact this
theorem CK.anyOrd {id : Nat} {σ : Env} {w : World} (hm : P.follows .mixedOrders = true) (ks : List Nat) (s : Sch) (hc : ordChk l ks s = true)
    (h : OKS N P l Q D ks s σ { w with drawn := w.drawn + 1 }) : CK r N P (.region id l.toArray true) Q D σ w := by
  unfold ordChk at hc
  simp only [Bool.and_eq_true, List.all_eq_true, List.mem_range, Nat.blt_eq] at hc
  obtain ⟨hpr, hg⟩ := hc
  intro a ha
  refine wpIn_region_any hm ?_
  have fin : ∀ (listed : Array Bool) (σ : Env) (a : Act) (w : World) (F X pend : List Nat) (s : Sch), listed.size = l.length → (∀ i, i < l.length → listed.getD i false = true) → Rep N D a σ → notFl s = true → Inv l ks listed F X pend s →
      OKS N P l Q D ks (fls s pend) σ w → liftQ N Q .normal a w := by
    intro listed σ a w F X pend s hsz hall hr hn hI hO
    have hp : pend = [] := by
      cases pend with
      | nil => rfl
      | cons x pend =>
        have hx := hI.sub x (by simp)
        rcases (hI.on x hx.2).1 (hall x hx.2) with h | h
        · exact absurd (by simp) h.2
        · have h1 := hI.fX x h; rw [hI.fF x hx.1] at h1; cases h1
    subst hp
    cases s with
    | nil => exact ⟨σ, D, hr, hO⟩
    | stop => have := hI.g; cases this
    | fl i s => cases hn
    | fx i s a =>
      obtain ⟨g1, _⟩ := good_fx hI.g
      rcases (hI.on i g1.lt).1 (hall i g1.lt) with h | h
      · have h1 := hI.fF i h.1; rw [g1.fl] at h1; cases h1
      · exact absurd h g1.nx
  have core : ∀ (fuel : Nat) (listed : Array Bool) (σ : Env) (a : Act) (w : World) (F X pend : List Nat) (s : Sch), listed.size = l.length → Rep N D a σ → notFl s = true → Inv l ks listed F X pend s →
      OKS N P l Q D ks (fls s pend) σ w → (listed.toList.filter (! ·)).length ≤ fuel → wpAnyIn (WF r) 0 P .any l.toArray (liftQ N Q) fuel listed a w := by
    intro fuel
    have prog : ∀ (listed : Array Bool), listed.size = l.length → Region.ready .any l.toArray listed = [] → ∀ i, i < l.length → listed.getD i false = true := by
      intro listed hsz hnil i
      induction i using Nat.strongRecOn with
      | _ i ih =>
        intro hi
        cases hb : listed.getD i false with
        | true => rfl
        | false =>
          have : i ∈ Region.ready .any l.toArray listed := (ready_spec hsz).2 ⟨hi, hb, fun j hj => ih j (hpr i hi j hj) (Nat.lt_trans (hpr i hi j hj) hi)⟩
          rw [hnil] at this; cases this
    induction fuel with
    | zero =>
      intro listed σ a w F X pend s hsz hr hn hI hO hf
      have hall : ∀ i, i < l.length → listed.getD i false = true := by
        intro i hi
        cases hb : listed.getD i false with
        | true => rfl
        | false => have := count_set listed i (by omega) hb; omega
      refine ⟨?_, fin listed σ a w F X pend s hsz hall hr hn hI hO⟩
      cases hr : Region.ready .any l.toArray listed with
      | nil => rfl
      | cons x xs =>
        have hx : x ∈ Region.ready .any l.toArray listed := by rw [hr]; simp
        obtain ⟨h1, h2, _⟩ := (ready_spec hsz).1 hx
        rw [hall x h1] at h2; cases h2
    | succ fuel ih =>
      intro listed σ a w F X pend s hsz hr hn hI hO hf
      refine ⟨fun hnil => fin listed σ a w F X pend s hsz (prog listed hsz hnil) hr hn hI hO, fun i hi => ?_⟩
      obtain ⟨hlt, hun, hpi⟩ := (ready_spec hsz).1 hi
      have hsz' : (listed.setIfInBounds i true).size = l.length := by simpa using hsz
      have hf' : ((listed.setIfInBounds i true).toList.filter (! ·)).length ≤ fuel := by have := count_set listed i (by omega) hun; omega
      have hnot : ¬ ((i ∈ F ∧ i ∉ pend) ∨ i ∈ X) := fun hc => by rw [(hI.on i hlt).2 hc] at hun; cases hun
      have hlate : ¬ late l ks F X i = true := by
        intro hL
        unfold late at hL
        rw [List.any_eq_true] at hL
        obtain ⟨p, hp, hq⟩ := hL
        have hlp := hpi p hp
        have hplt : p < l.length := Nat.lt_trans (hpr i hlt p hp) hlt
        have := (hI.on p hplt).1 hlp
        split at hq
        · rename_i hfl
          simp only [Bool.not_eq_true', List.contains_eq_mem, decide_eq_false_iff_not] at hq
          rcases this with h | h
          · exact hq h.1
          · have := hI.fX p h; rw [hfl] at this; cases this
        · rename_i hfl
          simp only [Bool.not_eq_true', List.contains_eq_mem, decide_eq_false_iff_not] at hq
          rcases this with h | h
          · exact hfl (hI.fF p h.1)
          · exact hq h
      have hpend : ∀ x ∈ pend, isAnc l 12 x i ≠ true := by
        intro x hx hxi
        have h1 := anc_listed hpr hI.dc 12 x i hlt hxi hpi
        have hs := hI.sub x hx
        rcases (hI.on x hs.2).1 h1 with h | h
        · exact h.2 hx
        · have := hI.fX x h; rw [hI.fF x hs.1] at this; cases this
      have dc' : ∀ k, k < l.length → (listed.setIfInBounds i true).getD k false = true → ∀ j ∈ prI l k, (listed.setIfInBounds i true).getD j false = true := by
        intro k hk hkl j hj
        rw [getD_set (by omega)] at hkl ⊢
        rcases hkl with rfl | hkl
        · exact .inr (hpi j hj)
        · exact .inr (hI.dc k hk hkl j hj)
      by_cases hF : i ∈ F
      · have hip : i ∈ pend := by
          refine Classical.byContradiction fun hc => hnot (.inl ⟨hF, hc⟩)
        obtain ⟨xs, ys, rfl⟩ := List.append_of_mem hip
        have hap : ∀ x ∈ xs, apI l x i = true := by
          intro x hx
          rcases (List.pairwise_append.1 hI.pw).2.2 x hx i (by simp) with h | h
          · exact h
          · exact absurd h (hpend x (by simp [hx]))
        have hO' := OKS.frontF xs σ hap hO
        obtain ⟨o, ho, hN, hfl⟩ := hO'
        refine wpOpIn_of ho hr hN hfl.step1 ?_
        rintro v w' a' hr' ⟨rfl, hO2⟩
        have hnd := hI.nd
        rw [List.nodup_append] at hnd
        have hixs : i ∉ xs := fun hc => hnd.2.2 i hc i (by simp) rfl
        have hiys : i ∉ ys := (List.nodup_cons.1 hnd.2.1).1
        refine ih _ (KL.put' σ o v) a' w' F X (xs ++ ys) s hsz' hr' hn ⟨hI.g, fun j hj => ?_, fun x hx => hI.sub x ?_, ?_, ?_, dc', hI.fF, hI.fX⟩ hO2 hf'
        · rw [getD_set (by omega), hI.on j hj]
          simp only [List.mem_append, List.mem_cons]
          constructor
          · rintro (rfl | ⟨h1, h2⟩ | h1)
            · exact .inl ⟨hF, fun hc => hc.elim hixs hiys⟩
            · exact .inl ⟨h1, fun hc => h2 (hc.imp (fun h => h) .inr)⟩
            · exact .inr h1
          · rintro (⟨h1, h2⟩ | h1)
            · by_cases e : j = i
              · exact .inl e
              · exact .inr (.inl ⟨h1, fun hc => hc.elim (fun h => h2 (.inl h)) fun h => h.elim e fun h => h2 (.inr h)⟩)
            · exact .inr (.inr h1)
        · simp only [List.mem_append, List.mem_cons] at hx ⊢; exact hx.imp (fun h => h) .inr
        · rw [List.nodup_append]
          exact ⟨hnd.1, (List.nodup_cons.1 hnd.2.1).2, fun x hx y hy => hnd.2.2 x hx y (by simp [hy])⟩
        · have hpw := List.pairwise_append.1 hI.pw
          rw [List.pairwise_append]
          exact ⟨hpw.1, (List.pairwise_cons.1 hpw.2.1).2, fun x hx y hy => hpw.2.2 x hx y (by simp [hy])⟩
      · cases s with
        | nil =>
          have hg := hI.g
          simp only [good, List.all_eq_true, List.mem_range, Bool.or_eq_true, List.contains_eq_mem, decide_eq_true_eq] at hg
          rcases hg i hlt with h | h
          · exact absurd h hF
          · exact absurd (.inr h) hnot
        | stop => have := hI.g; cases this
        | fl i s => cases hn
        | fx j s alt =>
          obtain ⟨_, _, _, gn⟩ := good_fx hI.g
          have hh : i ∈ heads (.fx j s alt) := by
            rcases gn rfl i hlt with h | h | h | h
            · exact absurd h hF
            · exact absurd (.inr h) hnot
            · exact h
            · exact absurd h hlate
          have hgt : good l ks true F X (.fx j s alt) = true := by
            have hg := hI.g
            simp only [good, Bool.and_eq_true, Bool.or_eq_true, Bool.true_or, Bool.false_eq_true, false_or, true_and] at hg ⊢
            exact ⟨⟨⟨⟨⟨hg.1.1.1.1.1.2, hg.1.1.1.1.2⟩, hg.1.1.1.2⟩, hg.1.1.2⟩, hg.1.2⟩, hg.2⟩
          obtain ⟨si, hd, hgi, hw⟩ := head_pick (N := N) (P := P) (Q := Q) (D := D) _ hgt hh
          have hO1 := OKS.flsMono (fun σ => hw σ w) pend σ hO
          have hO2 := OKS.frontX pend σ (fun x hx => by
            rcases hd.pr x (hI.sub x hx).1 with h | h
            · exact h
            · exact absurd h (hpend x hx)) hO1
          obtain ⟨⟨o, ho, hN, hst⟩, _⟩ := hO2
          refine wpOpIn_of ho hr hN hst ?_
          rintro v w' a' hr' ⟨_, hO3⟩
          have hinv : Inv l ks (listed.setIfInBounds i true) F (i :: X) pend si := by
            refine ⟨hgi, fun j hj => ?_, hI.sub, hI.nd, hI.pw, dc', hI.fF, fun x hx => ?_⟩
            · rw [getD_set (by omega), hI.on j hj]
              simp only [List.mem_cons]
              constructor
              · rintro (rfl | h1 | h1)
                · exact .inr (.inl rfl)
                · exact .inl h1
                · exact .inr (.inr h1)
              · rintro (h1 | rfl | h1)
                · exact .inr (.inl h1)
                · exact .inl rfl
                · exact .inr (.inr h1)
            · rcases List.mem_cons.1 hx with rfl | hx
              · exact hd.fl
              · exact hI.fX x hx
          obtain ⟨F', pend', s', hn', hI', hO'⟩ := absorb si F pend hinv hO3
          exact ih _ _ a' w' F' (i :: X) pend' s' hsz' hr' hn' hI' hO' hf'
  have rep : ∀ (n j : Nat), (Array.replicate n false).getD j false = false := by
    intro n j
    simp only [Array.getD_eq_getD_getElem?, Array.getElem?_replicate]; split <;> rfl
  obtain ⟨F', pend', s', hn', hI', hO'⟩ := absorb (N := N) (P := P) (Q := Q) (D := D) (listed := Array.replicate l.length false) (X := []) (σ := σ) (w := { w with drawn := w.drawn + 1 }) s [] []
    ⟨hg, fun i hi => by rw [rep]; simp, by simp, by simp, by simp, fun i hi h => (by rw [rep] at h; cases h), by simp, by simp⟩ h
  exact core _ _ σ a _ F' [] pend' s' (by simp) ha hn' hI' hO' (by simp)
end
end Go.KL
