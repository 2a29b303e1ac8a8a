/- The machine's code, held against the model's: what it computes is so, whatever order is drawn. -/
import Derived.Test.YtjfffcjjlnmneaaGreatXJ
namespace Go.KX
open Go.RowKit Go.KL

/-! ### One operation -/
/-- What an operation looks at: 3: registers; 1: memory; 0: it adds to memory or writes; 4: it writes, and has no value; 5: a call. -/
def kdA : AOp → Nat
  | .mv _ | .pick _ _ _ | .nilc _ | .add _ _ | .sub _ _ | .mul _ _ | .quo _ _ | .rem _ _ | .lss _ _ | .leq _ _ | .gtr _ _ | .geq _ _ | .eql _ _ | .neq _ _ | .eqb _ _ _ | .eqn _ _ _ _ | .eqs _ _ _ _
  | .bad | .and _ _ | .shr _ _ | .ixs _ _ | .neg _ | .not _ | .cvt _ _ | .mkf _ _ _ | .slc _ _ _ _ _ | .slcA _ _ _ _ _ | .fad _ _ | .fld _ _ | .fldA _ _ _ | .iad _ _ _ | .iadA _ _ _ _ | .ix _ _ _ | .ixA _ _ _ _ | .ext _ _ | .bld _ _ | .len _ | .cap _ | .min _ _ | .max _ _ => 3
  | .ld _ | .ldA _ _ | .lk _ _ _ _ _ _ | .lenM _ => 1
  | .st _ _ _ | .mput _ _ _ _ _ => 4
  | .call _ _ => 5
  | _ => 0
noncomputable def c_call (x : AOd) (l : List AOd) : Op → Bool
  | .call c => match c.callee with
    | .value f => chkD x f && chkDs l c.args.toList
    | _ => false
  | _ => false
noncomputable def strB : List UInt8 → List Nat → Bool
  | [], [] => true
  | a :: l, b :: k => Nat.beq a.toNat b && strB l k
  | _, _ => false
theorem strB_ok : ∀ {l : List UInt8} {k : List Nat}, strB l k = true → l.map UInt8.toNat = k
  | [], [], _ => rfl
  | a :: l, b :: k, h => by
    simp only [strB, Bool.and_eq_true] at h
    rw [List.map_cons, Nat.eq_of_beq_eq_true h.1, strB_ok h.2]
  | [], _ :: _, h => by simp [strB] at h
  | _ :: _, [], h => by simp [strB] at h
noncomputable def c_ixs (P : Program) (l : List Nat) (y : AOd) : Op → Bool
  | .index t (.const (.string s)) y' => undT P t (fun d => match d with | .string => true | _ => false) && (strB s.data.toList l && chkD y y')
  | _ => false
noncomputable def chkOp (P : Program) (a : AOp) (op : Op) : Bool := match a with
  | .mv x => c_mv x op
  | .pick c x y => c_pick c x y op
  | .new T z => c_new P T z op
  | .box T x => c_box T x op
  | .ld x => c_ld P x op
  | .ldA n x => c_ldA P n x op
  | .st n x y => c_st P n x y op
  | .nilc x => c_nilc x op
  | .add x y => c_bin .add x y op
  | .sub x y => c_bin .sub x y op
  | .mul x y => c_bin .mul x y op
  | .quo x y => c_bin .quo x y op
  | .rem x y => c_bin .rem x y op
  | .lss x y => c_bin .lss x y op
  | .leq x y => c_bin .leq x y op
  | .gtr x y => c_bin .gtr x y op
  | .geq x y => c_bin .geq x y op
  | .eql x y => c_bin .eql x y op
  | .neq x y => c_bin .neq x y op
  | .eqb ne x y => c_eqb P ne x y op
  | .eqn k ne x y => c_eqn P k ne x y op
  | .eqs ne s x y => c_eqs P ne s x y op
  | .neg x => c_neg x op
  | .not x => c_not x op
  | .cvt k x => c_cvt (P := P) k x op
  | .mkf f fi ca => c_mkf f fi ca op
  | .mkm => c_mkm op
  | .mks T sz by_ z x y => c_mks P T sz by_ z x y op
  | .slc sz x lo hi mx => c_slc P sz x lo hi mx op
  | .slcA sz n x lo hi => c_slcA P sz n x lo hi op
  | .fad off x => c_fad P off x op
  | .fld off x => c_fld P off x op
  | .fldA off n x => c_fldA P off n x op
  | .iad sz x y => c_iad P sz x y op
  | .iadA sz n x y => c_iadA P sz n x y op
  | .ix n x y => c_ix P n x y op
  | .ixA sz n x y => c_ixA P sz n x y op
  | .lk two k ok z x y => c_lk P two k ok z x y op
  | .mput two k x y z => c_mput P two k x y z op
  | .mdel two k x y => c_mdel P two k x y op
  | .ext i x => c_ext i x op
  | .bld z ps => c_bld P z ps op
  | .blds T n z ps => c_blds P T n z ps op
  | .len x => c_len P .len x op
  | .lenM x => c_lenM P x op
  | .cap x => c_len P .cap x op
  | .app T sz by_ x y => c_app P T sz by_ x y op
  | .cpy sz x y => c_cpy P sz x y op
  | .clr z x => c_clr P z x op
  | .min x y => c_mm .min x y op
  | .max x y => c_mm .max x y op
  | .call x l => c_call x l op
  | .bad => true
  | .and x y => c_bin .and x y op
  | .shr x y => c_bin .shr x y op
  | .ixs l y => c_ixs P l y op
  | .apz T sz by_ z x y => c_apz P T sz by_ z x y op
section
variable {C : Chk} {P : Program} {tb : Tr AF} {ex exY : Run}
theorem p_bad {op : Op} : OkP P op (o_bad) := by
  intro σA h v h' hr
  cases hr
theorem p_and {x y : AOd} {op : Op} (hc : c_bin .and x y op = true) : OkP P op (o_and x y) := by
  intro σA h v h' hr
  obtain ⟨t, x', y', t', rfl, h1, h2⟩ := c_bin_ok hc
  obtain ⟨hr2, rfl⟩ := okV_some hr
  split at hr2
  · rename_i k a k' b ha hb
    split at hr2
    · rename_i hk
      cases hr2
      have hk := keq_eq hk
      subst hk
      refine ⟨rfl, fun μ σ hE => ⟨_, rfl, fun o w ho => ?_⟩⟩
      have g1 := chkD_ok h1 hE; rw [ha] at g1
      have g2 := chkD_ok h2 hE; rw [hb] at g2
      have g1 : ev σ x' = .int k a := g1
      have g2 : ev σ y' = .int k b := g2
      exact ⟨by rw [ho]; rfl, by simp [execOp, ho, g1, g2, binOp, eqGuard, Op.intBits, andI]⟩
    · cases hr2
  · cases hr2
theorem p_shr {x y : AOd} {op : Op} (hc : c_bin .shr x y op = true) : OkP P op (o_shr x y) := by
  intro σA h v h' hr
  obtain ⟨t, x', y', t', rfl, h1, h2⟩ := c_bin_ok hc
  obtain ⟨hr2, rfl⟩ := okV_some hr
  split at hr2
  · rename_i k a k' b ha hb
    cases hr2
    refine ⟨rfl, fun μ σ hE => ⟨_, rfl, fun o w ho => ?_⟩⟩
    have g1 := chkD_ok h1 hE; rw [ha] at g1
    have g2 := chkD_ok h2 hE; rw [hb] at g2
    have g1 : ev σ x' = .int k a := g1
    have g2 : ev σ y' = .int k' (Int.ofNat b) := g2
    have hn : ¬ (Int.ofNat b) < 0 := by simp
    exact ⟨by rw [ho]; rfl, by simp [execOp, ho, g1, g2, binOp, eqGuard, Op.shift]; intro hb0; omega⟩
  · cases hr2
theorem p_ixs {l : List Nat} {y : AOd} {op : Op} (hc : c_ixs P l y op = true) : OkP P op (o_ixs l y) := by
  intro σA h v h' hr
  unfold c_ixs at hc
  split at hc <;> first | (cases hc; done) | skip
  rename_i t s y'
  simp only [Bool.and_eq_true] at hc
  obtain ⟨c1, c2, c3⟩ := hc
  obtain ⟨d, d1, d2⟩ := undT_ok c1
  split at d2 <;> first | (cases d2; done) | skip
  have hl := strB_ok c2
  unfold o_ixs at hr
  split at hr
  · rename_i k i hy
    obtain ⟨hr2, rfl⟩ := okV_some hr
    split at hr2
    · rename_i b hb
      cases hr2
      rw [nth_eq, ← hl, List.getElem?_map] at hb
      have hi : i < s.data.toList.length := by
        rcases Nat.lt_or_ge i s.data.toList.length with q | q
        · exact q
        · rw [List.getElem?_eq_none q] at hb; cases hb
      have hi2 : i < s.size := by simpa using hi
      rw [List.getElem?_eq_getElem hi] at hb
      have hb : (s.data.toList[i]).toNat = b := by simpa using hb
      refine ⟨rfl, fun μ σ hE => ⟨_, rfl, fun o w ho => ?_⟩⟩
      have g := chkD_ok c3 hE; rw [hy] at g
      have g : ev σ y' = .int k (Int.ofNat i) := g
      have hx : ev σ (.const (.string s)) = .string s := rfl
      have hrun := run_index_string (P := P) w t s k (Int.ofNat i) d1
      rw [dif_pos ⟨by simp, by simpa using hi2⟩] at hrun
      have hbb : (s[(Int.ofNat i).toNat]'(by simpa using hi2)).toNat = b := by rw [← hb]; rfl
      rw [hbb] at hrun
      simp only [Int.ofNat_eq_natCast] at hrun
      exact ⟨by rw [ho]; rfl, by simp only [execOp, ho, hx, g]; simp [hrun]⟩
    · cases hr2
  · cases hr
theorem okP_of {a : AOp} {op : Op} (hk : kdA a = 3) (hc : chkOp P a op = true) : OkP P op (opY a tb ex exY) := by
  cases a <;> first
    | (simp [kdA] at hk; done)
    | exact p_bad | exact p_and hc | exact p_shr hc | exact p_ixs hc | exact p_mv hc | exact p_pick hc | exact p_nilc hc | exact p_add hc | exact p_sub hc | exact p_mul hc | exact p_quo hc | exact p_rem hc
    | exact p_lss hc | exact p_leq hc | exact p_gtr hc | exact p_geq hc | exact p_eql hc | exact p_neq hc | exact p_eqb hc | exact p_eqn hc | exact p_eqs hc
    | exact p_neg hc | exact p_not hc | exact p_cvt hc | exact p_mkf hc | exact p_slc hc | exact p_slcA hc | exact p_fad hc | exact p_fld hc | exact p_fldA hc
    | exact p_iad hc | exact p_iadA hc | exact p_ix hc | exact p_ixA hc | exact p_ext hc | exact p_bld hc | exact p_len hc | exact p_cap hc | exact p_min hc | exact p_max hc
theorem okL_of {a : AOp} {op : Op} (hk : kdA a = 1 ∨ kdA a = 3) (hc : chkOp P a op = true) : OkL C P op (opY a tb ex exY) := by
  rcases hk with hk | hk
  · cases a <;> first
      | (simp [kdA] at hk; done)
      | exact l_ld hc | exact l_ldA hc | exact l_lk hc | exact l_lenM hc
  · exact (okP_of hk hc).toL
theorem okE_of {a : AOp} {op : Op} (hk : kdA a = 0 ∨ kdA a = 1 ∨ kdA a = 3) (hc : chkOp P a op = true) : OkE C P op (opY a tb ex exY) := by
  rcases hk with hk | hk
  · cases a <;> first
      | (simp [kdA] at hk; done)
      | exact e_new hc | exact e_box hc | exact e_mkm hc | exact e_mks hc | exact e_mdel hc | exact e_blds hc | exact e_app hc | exact e_apz hc | exact e_cpy hc | exact e_clr hc
  · exact (okL_of hk hc).toE
theorem okU_of {a : AOp} {op : Op} (hk : kdA a = 4) (hc : chkOp P a op = true) : OkU C P op (opY a tb ex exY) := by
  cases a <;> first
    | (simp [kdA] at hk; done)
    | exact u_st hc | exact u_mput hc

/-! ### What is asked of calls -/
def CallOK (C : Chk) (P : Program) (tb : Tr AF) (ex : Run) : Prop := ∀ f args h v h', callW tb ex f args h = some (v, h') →
  (∀ (a : Array Value) (w : World), (callFunc (f.nat - 1) a).run P w = .ok (.enter (f.nat - 1) a) w) ∧
  ∀ μ w vs, Sim C P μ h w → RvL μ args vs → Gv P (f.nat - 1) vs w fun cv w' => ∃ μ', Ext μ h.fl.nat w μ' w' ∧ Sim C P μ' h' w' ∧ Rv μ' v cv ∧ h'.fl = h.fl
def YieldOK (C : Chk) (P : Program) (ex : Run) : Prop := ∀ b args h v h', yieldW ex b args h = some (v, h') →
  ∀ μ w x c, Sim C P μ h w → RvL μ args x → μ b = some c → Yd P c.1 x w fun t w' => ∃ μ', Ext μ h.fl.nat w μ' w' ∧ Sim C P μ' h' w' ∧ v = .bool t ∧ h'.fl = h.fl
/-! ### Regions -/
noncomputable def chkAO (P : Program) (N : Nat) (l : List Oper) (a : AO) : Bool := match l[a.ix]? with
  | none => false
  | some o => chkOp P a.op o.op && ((match a.dst, o.dst with
      | none, none => true
      | some p, some d => Nat.beq p.nat (d + 1) && Nat.blt d N
      | _, _ => false) && ((match a.grd, o.guard with
      | none, none => true
      | some (p, b), some (j, b') => (b == b') && (match (l[j]?).bind (·.dst) with | some d => Nat.beq p.nat (d + 1) | none => false)
      | _, _ => false) && ((match a.kd with
      | 3 => Nat.beq (kdA a.op) 3
      | 1 => Nat.beq (kdA a.op) 1 || Nat.beq (kdA a.op) 3
      | _ => true) && ((!Nat.beq (kdA a.op) 4 || o.dst.isNone) && !Nat.beq a.kd 1005))))
structure AOK (P : Program) (N : Nat) (l : List Oper) (a : AO) (o : Oper) : Prop where
  get : l[a.ix]? = some o
  op : chkOp P a.op o.op = true
  dst : (a.dst = none ∧ o.dst = none) ∨ ∃ p d, a.dst = some p ∧ o.dst = some d ∧ d = p.nat - 1 ∧ d < N
  grd : (a.grd = none ∧ o.guard = none) ∨ ∃ p b j d, a.grd = some (p, b) ∧ o.guard = some (j, b) ∧ (l[j]?).bind (·.dst) = some d ∧ d = p.nat - 1
  k3 : a.kd = 3 → kdA a.op = 3
  k1 : a.kd = 1 → kdA a.op = 1 ∨ kdA a.op = 3
  un : kdA a.op = 4 → o.dst = none
  k5 : a.kd ≠ 1005
theorem chkAO_ok {N : Nat} {l : List Oper} {a : AO} (hc : chkAO P N l a = true) : ∃ o, AOK P N l a o := by
  unfold chkAO at hc
  split at hc
  · cases hc
  · rename_i o ho
    simp only [Bool.and_eq_true] at hc
    obtain ⟨c1, c2, c3, c4, c5, c6⟩ := hc
    refine ⟨o, ho, c1, ?_, ?_, ?_, ?_, ?_, ?_⟩
    · split at c2
      · rename_i h1 h2; exact .inl ⟨h1, h2⟩
      · rename_i p d h1 h2
        simp only [Bool.and_eq_true, Nat.blt_eq] at c2
        have := Nat.eq_of_beq_eq_true c2.1
        exact .inr ⟨p, d, h1, h2, by rw [this]; rfl, c2.2⟩
      · cases c2
    · split at c3
      · rename_i h1 h2; exact .inl ⟨h1, h2⟩
      · rename_i p b j b' h1 h2
        simp only [Bool.and_eq_true, beq_iff_eq] at c3
        obtain ⟨rfl, c3⟩ := c3
        split at c3
        · rename_i d hd
          have := Nat.eq_of_beq_eq_true c3
          exact .inr ⟨p, b, j, d, h1, h2, hd, by rw [this]; rfl⟩
        · cases c3
      · cases c3
    · intro hk; rw [hk] at c4; exact Nat.eq_of_beq_eq_true c4
    · intro hk; rw [hk] at c4
      simp only [Bool.or_eq_true] at c4
      exact c4.imp Nat.eq_of_beq_eq_true Nat.eq_of_beq_eq_true
    · intro hk; rw [hk] at c5
      simpa using c5
    · intro hk; rw [hk] at c6
      simp at c6
theorem want_ok {N : Nat} {l : List Oper} {a : AO} {o : Oper} {μ : Mu} {σA : Tr AV} {σ : Env} (A : AOK P N l a o) (hE : EnvR μ σA σ) : wanted l σ o = wantA σA a.grd := by
  unfold wanted
  rcases A.grd with ⟨h1, h2⟩ | ⟨p, b, j, d, h1, h2, h3, h4⟩
  · rw [h1, h2]; rfl
  · rw [h1, h2]
    simp only [h3]
    show _ = isB b (evA σA (.t p))
    have g := hE p
    rw [← h4] at g
    unfold isB
    cases hv : evA σA (.t p) <;> rw [hv] at g <;> simp only [Rv] at g <;>
      first | (rw [g]; done) | (obtain ⟨_, _, _, _, _, g⟩ := g; rw [g]; done) | (obtain ⟨_, _, _, _, g⟩ := g; rw [g]; done) | (obtain ⟨_, _, _, g⟩ := g; rw [g]; done) | (obtain ⟨_, _, g⟩ := g; rw [g]; done) | (obtain ⟨_, g⟩ := g; rw [g]; done) | rw [g]
theorem put_ok {N : Nat} {l : List Oper} {a : AO} {o : Oper} {μ : Mu} {σA : Tr AV} {σ : Env} {v : AV} {cv : Value} (A : AOK P N l a o) (hE : EnvR μ σA σ) (hv : Rv μ v cv) : EnvR μ (putD a.dst σA v) (put' σ o cv) := by
  rcases A.dst with ⟨h1, h2⟩ | ⟨p, d, h1, h2, h3, _⟩
  · rw [h1]; unfold put'; rw [h2]; exact hE
  · rw [h1]; unfold put'; rw [h2]; subst h3; exact hE.put hv
theorem dst_lt {N : Nat} {l : List Oper} {a : AO} {o : Oper} (A : AOK P N l a o) : ∀ d, o.dst = some d → d < N := by
  intro d hd
  rcases A.dst with ⟨_, h2⟩ | ⟨p, d', _, h2, _, h4⟩
  · rw [h2] at hd; cases hd
  · rw [h2] at hd; cases hd; exact h4
/-- One operation as it stands. -/
theorem stepY (HC : CallOK C P tb ex) (HY : YieldOK C P exY) {N : Nat} {l : List Oper} {a : AO} {o : Oper} {μ : Mu} {σA : Tr AV} {σ : Env} {h h' : AH} {v : AV} {w : World} (A : AOK P N l a o) (hw : wanted l σ o = true) (hr : opY a.op tb ex exY σA h = some (v, h')) (hE : EnvR μ σA σ) (S : Sim C P μ h w) :
    Step1 P l o σ w fun cv w' => ∃ μ', Ext μ h.fl.nat w μ' w' ∧ Sim C P μ' h' w' ∧ EnvR μ' (putD a.dst σA v) (put' σ o cv) ∧ h'.fl = h.fl := by
  have hop := A.op
  by_cases k4 : kdA a.op = 4
  · obtain ⟨μ', w', h1, h2, rfl, h4, h5⟩ := okU_of (C := C) k4 hop σA h v h' hr μ σ w hE S o rfl
    exact .inl ⟨hw, .inl ⟨A.un k4, w', h5, μ', h1, h2, put_ok A (hE.mono h1.mono) (rv_u μ'), h4⟩⟩
  · by_cases k5 : kdA a.op = 5
    · cases hq : a.op <;> rw [hq] at k5 <;> first | (simp [kdA] at k5; done) | skip
      rename_i x args
      rw [hq] at hop hr
      have hop : c_call x args o.op = true := hop
      unfold c_call at hop
      split at hop <;> first | (cases hop; done) | skip
      rename_i c hoc
      obtain ⟨ce, cargs, tys⟩ := c
      simp only at hop
      split at hop <;> first | (cases hop; done) | skip
      rename_i f
      simp only [Bool.and_eq_true] at hop
      have hx := chkD_ok hop.1 hE
      have ha := chkDs_ok hop.2 hE
      have hr : o_call x args tb ex exY σA h = some (v, h') := hr
      unfold o_call at hr
      split at hr
      · rename_i g fi ca hg
        rw [hg] at hx
        obtain ⟨fv, cv, g1, g2, g3⟩ := hx
        obtain ⟨hcall, hgv⟩ := HC _ _ _ _ _ hr
        have G := hgv μ w _ S (rvL_app g1 (rvL_app ha g2))
        refine .inl ⟨hw, .inr (.inr (.inl ⟨_, _, _, Enters.mk (l := cargs.toList) hoc g3 hcall rfl (by rw [List.append_assoc]), G, ?_⟩))⟩
        rintro cv' w' ⟨μ', h1, h2, h3, h4⟩
        exact ⟨μ', h1, h2, put_ok A (hE.mono h1.mono) h3, h4⟩
      · rename_i b hb
        rw [hb] at hx
        obtain ⟨c, g1, g2⟩ := hx
        have hy := HY _ _ _ _ _ hr
        have Y := hy μ w _ c S ha g1
        have R := Yd.rounds (σ := σ) hoc g2 rfl Y
        refine .inl ⟨hw, .inr (.inr (.inr (R.mono ?_)))⟩
        rintro cv w' ⟨t, rfl, μ', h1, h2, rfl, h4⟩
        exact ⟨μ', h1, h2, put_ok A (hE.mono h1.mono) rfl, h4⟩
      · cases hr
    · have hk : kdA a.op = 0 ∨ kdA a.op = 1 ∨ kdA a.op = 3 := by
        cases hq : a.op <;> rw [hq] at k4 k5 <;> simp [kdA] at k4 k5 ⊢
      obtain ⟨μ', w', cv, h1, h2, h3, h4, h5⟩ := okE_of (C := C) hk hop σA h v h' hr μ σ w hE S o rfl
      exact .inl ⟨hw, .inr (.inl ⟨cv, w', h5, μ', h1, h2, put_ok A (hE.mono h1.mono) h3, h4⟩)⟩
/-- One operation that is not a float, of its kind. -/
theorem stepK (HC : CallOK C P tb ex) (HY : YieldOK C P exY) {N : Nat} {l : List Oper} {a : AO} {o : Oper} {μ : Mu} {σA : Tr AV} {σ : Env} {h h' : AH} {v : AV} {w : World} (A : AOK P N l a o) (hw : wanted l σ o = true) (hr : opK a.kd a.op tb ex exY σA h = some (v, h')) (hE : EnvR μ σA σ) (S : Sim C P μ h w) :
    Step1 P l o σ w fun cv w' => (a.kd = 2 → Keep w w' Non) ∧ ∃ μ', Ext μ h.fl.nat w μ' w' ∧ Sim C P μ' h' w' ∧ EnvR μ' (putD a.dst σA v) (put' σ o cv) ∧ h'.fl = h.fl := by
  by_cases k2 : a.kd = 2
  · have hr : opK2 a.op tb ex exY σA h = some (v, h') := by rw [k2] at hr; exact hr
    unfold opK2 at hr
    split at hr
    · rename_i v0 h0 hq
      cases hr
      refine (stepY HC HY A hw hq hE (S.floor h.nx)).mono ?_
      rintro cv w' ⟨μ', h1, h2, h3, h4⟩
      obtain ⟨g1, g2⟩ := S.non h1 h.fl.nat
      exact ⟨fun _ => g1, μ', g2, h2.floor h.fl, h3, rfl⟩
    · cases hr
  · have hr : opY a.op tb ex exY σA h = some (v, h') := by
      have hb : Nat.beq a.kd 2 = false := by
        cases hb : Nat.beq a.kd 2 with
        | false => rfl
        | true => exact absurd (Nat.eq_of_beq_eq_true hb) k2
      have : opK a.kd a.op = opY a.op := by unfold opK; rw [hb]
      rw [this] at hr; exact hr
    exact (stepY HC HY A hw hr hE S).mono fun cv w' hq => ⟨fun e => absurd e k2, hq⟩
def flK (k : Nat) : Bool := Nat.beq k 1 || Nat.beq k 3
def schOf : List AO → Sch
  | [] => .nil
  | a :: os => match flK a.kd with
    | true => .fl a.ix (schOf os)
    | false => .fx a.ix (schOf os) .stop
theorem ops_ok (HC : CallOK C P tb ex) (HY : YieldOK C P exY) {N : Nat} {l : List Oper} {ks : List Nat} {Q : Post} {D : List Deferred} : ∀ (os : List AO) (σA : Tr AV) (h : AH) (σA' : Tr AV) (h' : AH), runOps tb ex exY os σA h = some (σA', h') →
    (∀ a ∈ os, chkAO P N l a = true ∧ kOf ks a.ix = a.kd) → ∀ (μ : Mu) (σ : Env) (w : World), Sim C P μ h w → EnvR μ σA σ →
    (∀ μ' w' σ', Ext μ h.fl.nat w μ' w' → Sim C P μ' h' w' → EnvR μ' σA' σ' → h'.fl = h.fl → Q D .normal σ' w') → OKS N P l Q D ks (schOf os) σ w
  | [], σA, h, σA', h', hr, _, μ, σ, w, S, hE, hQ => by
    rw [runOps_nil] at hr; cases hr
    exact hQ μ w σ (Ext.refl μ _ w) S hE rfl
  | a :: os, σA, h, σA', h', hr, hc, μ, σ, w, S, hE, hQ => by
    obtain ⟨hc1, hk⟩ := hc a (by simp)
    obtain ⟨o, A⟩ := chkAO_ok hc1
    have hc2 : ∀ b ∈ os, chkAO P N l b = true ∧ kOf ks b.ix = b.kd := fun b hb => hc b (by simp [hb])
    rw [runOps_cons] at hr
    have hw := want_ok A hE
    cases hwa : wantA σA a.grd with
    | false =>
      rw [hwa] at hr hw
      simp only at hr
      have IH := ops_ok HC HY os _ h σA' h' hr hc2 μ (put' σ o undef) w S (put_ok A hE (rv_u μ)) hQ
      unfold schOf
      split
      · exact ⟨o, A.get, dst_lt A, .inr ⟨hw, IH⟩⟩
      · exact ⟨⟨o, A.get, dst_lt A, .inr ⟨hw, KeepD.refl l ks _ w, IH⟩⟩, trivial⟩
    | true =>
      rw [hwa] at hr hw
      simp only at hr
      split at hr
      · rename_i r hop
        obtain ⟨v, h1⟩ := r
        simp only at hr
        unfold schOf
        split
        · rename_i hfl
          have hk13 : a.kd = 1 ∨ a.kd = 3 := by
            unfold flK at hfl
            simp only [Bool.or_eq_true] at hfl
            exact hfl.imp Nat.eq_of_beq_eq_true Nat.eq_of_beq_eq_true
          have hop : opY a.op tb ex exY σA h = some (v, h1) := by
            rcases hk13 with e | e <;> (rw [e] at hop; exact hop)
          have hL : kdA a.op = 1 ∨ kdA a.op = 3 := by
            rcases hk13 with e | e
            · exact A.k1 e
            · exact .inr (A.k3 e)
          obtain ⟨rfl, hh⟩ := okL_of (C := C) hL A.op σA h v h1 hop
          obtain ⟨cv, g1, g2⟩ := hh μ σ w hE S
          refine ⟨o, A.get, dst_lt A, .inl ⟨hw, ?_⟩⟩
          by_cases k3 : a.kd = 3
          · obtain ⟨_, hp⟩ := okP_of (tb := tb) (ex := ex) (exY := exY) (A.k3 k3) A.op σA h1 v h1 hop
            obtain ⟨cv, g1, g2⟩ := hp μ σ hE
            exact ⟨cv, fun w' _ => g2 o w' rfl, ⟨fun _ w' => g2 o w' rfl, fun _ w' _ => g2 o w' rfl⟩, ops_ok HC HY os _ h1 σA' h' hr hc2 μ _ w S (put_ok A hE g1) hQ⟩
          · exact ⟨cv, g2 o rfl, ⟨fun e => absurd (hk ▸ e) k3, fun e => by rw [hk] at e; rcases hk13 with q | q <;> omega⟩, ops_ok HC HY os _ h1 σA' h' hr hc2 μ _ w S (put_ok A hE g1) hQ⟩
        · refine ⟨⟨o, A.get, dst_lt A, (stepK HC HY A hw hop hE S).mono ?_⟩, trivial⟩
          rintro cv w1 ⟨q0, μ1, q1, q2, q3, q4⟩
          refine ⟨⟨fun e => q0 (hk ▸ e), fun e => absurd (hk ▸ e) A.k5⟩, ops_ok HC HY os _ h1 σA' h' hr hc2 μ1 _ w1 q2 q3 fun μ' w' σ' r1 r2 r3 r4 => ?_⟩
          rw [q4] at r1 r4
          exact hQ μ' w' σ' (q1.trans r1) r2 r3 r4
      · cases hr
end
end Go.KX
