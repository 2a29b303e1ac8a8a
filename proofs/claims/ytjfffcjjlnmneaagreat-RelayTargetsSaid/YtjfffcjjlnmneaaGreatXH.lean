/- Structs, arrays and slices that are built; len, cap, min, max; loads, stores, new blocks. -/
import Derived.Test.YtjfffcjjlnmneaaGreatXG
namespace Go.KX
open Go.RowKit Go.KL
section
variable {C : Chk} {P : Program} {μ μ' : Mu} {w w' : World} {h h' : AH} {σ : Env} {σA : Tr AV} {t e : TypeId} {o : Oper}
noncomputable def chkPs (place : Nat → Option (Nat × Nat)) : List (Nat × Nat × AOd) → List (Nat × Operand) → Bool
  | [], [] => true
  | (off, n, x) :: ps, (i, y) :: qs => (match place i with | some (o, s) => Nat.beq o off && Nat.beq s n | none => false) && (chkD x y && chkPs place ps qs)
  | _, _ => false
theorem fill_ok {place : Nat → Option (Nat × Nat)} (hE : EnvR μ σA σ) : ∀ {ps : List (Nat × Nat × AOd)} {qs : List (Nat × Operand)} {cs r : List AV} {CS : List Value}, fillA σA cs ps = some r → chkPs place ps qs = true → RvL μ cs CS →
    ∃ R, lay place CS (qs.map fun (p : Nat × Operand) => (p.1, ev σ p.2)) = some R ∧ RvL μ r R ∧ R.length = CS.length
  | [], [], cs, r, CS, hr, _, hl => by
    simp only [fillA] at hr; cases hr; exact ⟨CS, rfl, hl, rfl⟩
  | (off, n, x) :: ps, (i, y) :: qs, cs, r, CS, hr, hc, hl => by
    simp only [chkPs, Bool.and_eq_true] at hc
    obtain ⟨c1, c2, c3⟩ := hc
    split at c1
    · rename_i o s hp
      simp only [Bool.and_eq_true] at c1
      have e1 := Nat.eq_of_beq_eq_true c1.1
      have e2 := Nat.eq_of_beq_eq_true c1.2
      subst e1 e2
      simp only [fillA] at hr
      split at hr
      · rename_i hn
        have hn := Nat.eq_of_beq_eq_true hn
        split at hr
        · rename_i cs' ho
          obtain ⟨vs, v1, v2⟩ := rv_cells (chkD_ok c2 hE)
          obtain ⟨g1, g2⟩ := rvL_over ho hl v1
          have hlen : vs.length = s := by rw [rvL_len v1, ← len_eq, hn]
          obtain ⟨R, r1, r2, r3⟩ := fill_ok hE hr c3 g2
          refine ⟨R, ?_, r2, by rw [r3, setN_length]⟩
          rw [List.map_cons, lay, hp]
          simp only [v2, List.size_toArray, hlen, beq_self_eq_true, Bool.true_and]
          rw [if_pos (by rw [Nat.ble_eq]; omega)]
          exact r1
        · cases hr
      · cases hr
    · cases c1
  | [], _ :: _, cs, r, CS, hr, hc, hl => by simp [chkPs] at hc
  | _ :: _, [], cs, r, CS, hr, hc, hl => by simp [chkPs] at hc
def plL (P : Program) : List Field → Option (List (Nat × Nat))
  | [] => some []
  | f :: fs => match P.info? f.type, plL P fs with
    | some i, some l => some ((f.offset, i.size) :: l)
    | _, _ => none
theorem plL_ok : ∀ {fs : List Field} {pl : List (Nat × Nat)}, plL P fs = some pl → Places P fs.toArray pl := by
  intro fs pl hp w
  rw [List.mapM_toArray]
  have key : ∀ (fs : List Field) (pl : List (Nat × Nat)), plL P fs = some pl → ((fs.mapM fun f => do pure (f.offset, ← sizeOf f.type) : Sem (List (Nat × Nat)))).run P w = .ok pl w := by
    intro fs
    induction fs with
    | nil => intro pl hp; cases hp; simp
    | cons f fs ih =>
      intro pl hp
      unfold plL at hp
      split at hp
      · rename_i i l h1 h2
        cases hp
        have hs : (sizeOf f.type).run P w = .ok i.size w := by simp [sizeOf, typeInfo, h1]
        simp only [List.mapM_cons, Sem.run_bind, hs, Result.andThen_ok, Sem.run_pure, ih l h2]
      · cases hp
  have := key fs pl hp
  simp only [Sem.run_map, this, Result.andThen_ok]
noncomputable def c_bld (P : Program) (z : List AV) (ps : List (Nat × Nat × AOd)) : Op → Bool
  | .build t qs => zT P t z && undT P t (fun d => match d with
      | .struct fs => match plL P fs.toList with
        | some pl => chkPs (fun i => pl[i]?) ps qs.toList
        | none => false
      | .array _ e => match P.info? e with
        | some j => chkPs (fun i => some (i * j.size, j.size)) ps qs.toList
        | none => false
      | _ => false)
  | _ => false
theorem p_bld {z : List AV} {ps : List (Nat × Nat × AOd)} {op : Op} (hc : c_bld P z ps op = true) : OkP P op (o_bld z ps) := by
  intro σA h v h' hr
  unfold c_bld at hc
  split at hc
  · rename_i t qs
    simp only [Bool.and_eq_true] at hc
    obtain ⟨c1, c2⟩ := hc
    obtain ⟨hr2, rfl⟩ := okV_some hr
    obtain ⟨r, hr3, rfl⟩ := optAgg_some hr2
    obtain ⟨i, zv, z1, z2, z3⟩ := zT_info c1
    obtain ⟨d, d1, d2⟩ := undT_ok c2
    refine ⟨rfl, fun μ σ hE => ?_⟩
    split at d2
    · rename_i fs
      split at d2
      · rename_i pl hpl
        obtain ⟨R, r1, r2, _⟩ := fill_ok hE hr3 d2 (z3 μ)
        refine ⟨_, ⟨R, r2, rfl⟩, fun o w ho => ?_⟩
        exact Runs.build (P := P) (ps := qs.toList) (z := zv.cells.toList) ho rfl (run_zero z1 z2) ⟨fs, run_und d1, plL_ok hpl⟩ (by simp) r1
      · cases d2
    · rename_i n e
      split at d2
      · rename_i j hj
        obtain ⟨R, r1, r2, _⟩ := fill_ok hE hr3 d2 (z3 μ)
        refine ⟨_, ⟨R, r2, rfl⟩, fun o w ho => ?_⟩
        exact Runs.buildA (P := P) (ps := qs.toList) (z := zv.cells.toList) ho rfl (run_zero z1 z2) (run_und d1) (fun w => by simp [sizeOf, typeInfo, hj]) (by simp) r1
      · cases d2
    · cases d2
  · cases hc
noncomputable def c_len (P : Program) (b : Builtin) (x : AOd) : Op → Bool
  | .call c => match c.callee with
    | .builtin b' => (b' == b) && (match c.args.toList, c.argTypes.toList with
      | [y], [t] => undT P t (fun d => match d with | .slice _ => true | _ => false) && chkD x y
      | _, _ => false)
    | _ => false
  | _ => false
theorem c_len_ok {b : Builtin} {x : AOd} {op : Op} (hc : c_len P b x op = true) : ∃ y t e, op = .call { callee := .builtin b, args := #[y], argTypes := #[t] } ∧ P.underlying t = some (.slice e) ∧ chkD x y = true := by
  unfold c_len at hc
  split at hc
  · rename_i c
    obtain ⟨ce, args, tys⟩ := c
    simp only at hc
    split at hc
    · rename_i b'
      simp only [Bool.and_eq_true, beq_iff_eq] at hc
      obtain ⟨rfl, h2⟩ := hc
      split at h2
      · rename_i y t h3 h4
        simp only [Bool.and_eq_true] at h2
        obtain ⟨d, d1, d2⟩ := undT_ok h2.1
        cases d <;> first | (cases d2; done) | skip
        refine ⟨y, t, _, ?_, d1, h2.2⟩
        congr 2
        · exact Array.ext' (by simpa using h3)
        · exact Array.ext' (by simpa using h4)
      · cases h2
    · cases hc
  · cases hc
theorem p_len {x : AOd} {op : Op} (hc : c_len P .len x op = true) : OkP P op (o_len x) := by
  intro σA h v h' hr
  obtain ⟨y, t, e, rfl, d1, c2⟩ := c_len_ok hc
  unfold o_len at hr
  split at hr <;> cases hr <;> rename_i hb
  · refine ⟨rfl, fun μ σ hE => ⟨_, rfl, fun o w ho => ?_⟩⟩
    have g := chkD_ok c2 hE; rw [hb] at g
    exact Runs.len ho g (run_und d1)
  · refine ⟨rfl, fun μ σ hE => ⟨_, rfl, fun o w ho => ?_⟩⟩
    have g := chkD_ok c2 hE; rw [hb] at g
    obtain ⟨c, _, _, g⟩ := g
    exact Runs.len ho g (run_und d1)
  · refine ⟨rfl, fun μ σ hE => ⟨_, rfl, fun o w ho => ?_⟩⟩
    have g := chkD_ok c2 hE; rw [hb] at g
    obtain ⟨c, _, _, g⟩ := g
    exact Runs.len ho g (run_und d1)
  · refine ⟨rfl, fun μ σ hE => ⟨_, rfl, fun o w ho => ?_⟩⟩
    have g := chkD_ok c2 hE; rw [hb] at g
    obtain ⟨c, _, q, g⟩ := g
    exact Runs.len ho g (run_und d1)
theorem Runs.cap {t e : TypeId} {x : Operand} {a : Option Addr} {n c : Nat} (ho : o.op = .call { callee := .builtin .cap, args := #[x], argTypes := #[t] }) (hx : ev σ x = .slice a n c)
    (ht : ∀ w, (underlying t).run P w = .ok (.slice e) w) : Runs P σ w o (.int .i64 c) w :=
  ⟨by rw [ho]; rfl, by simp [execOp, ho, resolve, invoke, builtin, Builtin.cap_, hx, ht, goInt]⟩
theorem p_cap {x : AOd} {op : Op} (hc : c_len P .cap x op = true) : OkP P op (o_cap x) := by
  intro σA h v h' hr
  obtain ⟨y, t, e, rfl, d1, c2⟩ := c_len_ok hc
  unfold o_cap at hr
  split at hr <;> cases hr <;> rename_i hb
  · refine ⟨rfl, fun μ σ hE => ⟨_, rfl, fun o w ho => ?_⟩⟩
    have g := chkD_ok c2 hE; rw [hb] at g
    exact Runs.cap ho g (run_und d1)
  · refine ⟨rfl, fun μ σ hE => ⟨_, rfl, fun o w ho => ?_⟩⟩
    have g := chkD_ok c2 hE; rw [hb] at g
    obtain ⟨c, _, _, g⟩ := g
    exact Runs.cap ho g (run_und d1)
noncomputable def c_mm (b : Builtin) (x y : AOd) : Op → Bool
  | .call c => match c.callee with
    | .builtin b' => (b' == b) && (match c.args.toList with
      | [x', y'] => chkD x x' && chkD y y'
      | _ => false)
    | _ => false
  | _ => false
theorem c_mm_ok {b : Builtin} {x y : AOd} {op : Op} (hc : c_mm b x y op = true) : ∃ x' y' tys, op = .call { callee := .builtin b, args := #[x', y'], argTypes := tys } ∧ chkD x x' = true ∧ chkD y y' = true := by
  unfold c_mm at hc
  split at hc
  · rename_i c
    obtain ⟨ce, args, tys⟩ := c
    simp only at hc
    split at hc
    · rename_i b'
      simp only [Bool.and_eq_true, beq_iff_eq] at hc
      obtain ⟨rfl, h2⟩ := hc
      split at h2
      · rename_i x' y' h3
        simp only [Bool.and_eq_true] at h2
        refine ⟨x', y', tys, ?_, h2.1, h2.2⟩
        congr 2
        exact Array.ext' (by simpa using h3)
      · cases h2
    · cases hc
  · cases hc
theorem p_min {x y : AOd} {op : Op} (hc : c_mm .min x y op = true) : OkP P op (o_min x y) := by
  intro σA h v h' hr
  obtain ⟨x', y', tys, rfl, c1, c2⟩ := c_mm_ok hc
  obtain ⟨hr2, rfl⟩ := okV_some hr
  split at hr2
  · rename_i a b e1 e2
    cases hr2
    refine ⟨rfl, fun μ σ hE => ⟨_, rfl, fun o w ho => ?_⟩⟩
    have g1 := chkD_ok c1 hE; rw [e1] at g1
    have g2 := chkD_ok c2 hE; rw [e2] at g2
    refine (Runs.min ho g1 g2).to ?_
    have : (match zlt b a with | true => b | false => a) = Min.min a b := by
      rw [zlt_dec, Int.min_def]
      by_cases hq : b < a
      · simp [hq, Int.not_le.2 hq]
      · simp [hq, Int.not_lt.1 hq]
    exact congrArg (Value.int .i64) this.symm
  · cases hr2
theorem p_max {x y : AOd} {op : Op} (hc : c_mm .max x y op = true) : OkP P op (o_max x y) := by
  intro σA h v h' hr
  obtain ⟨x', y', tys, rfl, c1, c2⟩ := c_mm_ok hc
  obtain ⟨hr2, rfl⟩ := okV_some hr
  split at hr2
  · rename_i a b e1 e2
    cases hr2
    refine ⟨rfl, fun μ σ hE => ⟨_, rfl, fun o w ho => ?_⟩⟩
    have g1 := chkD_ok c1 hE; rw [e1] at g1
    have g2 := chkD_ok c2 hE; rw [e2] at g2
    refine (Runs.max ho g1 g2).to ?_
    have : (match zlt a b with | true => b | false => a) = Max.max a b := by
      rw [zlt_dec, Int.max_def]
      by_cases hq : a < b
      · simp [hq, Int.le_of_lt hq]
      · by_cases hq2 : a ≤ b
        · have : a = b := by omega
          simp [this]
        · simp [hq, hq2]
    exact congrArg (Value.int .i64) this.symm
  · cases hr2

/-! ### Loads -/
def OkL (C : Chk) (P : Program) (op : Op) (f : Tr AV → AH → Option (AV × AH)) : Prop :=
  ∀ σA h v h', f σA h = some (v, h') → h' = h ∧ ∀ μ σ w, EnvR μ σA σ → Sim C P μ h w → ∃ cv, Rv μ v cv ∧ ∀ (o : Oper), o.op = op → RunsK P σ w o cv
theorem cellsAt_ok {b : Pos} {l : List AV} (hr : cellsAt h b = some l) (S : Sim C P μ h w) : ∃ c vs, μ b = some c ∧ RvL μ l vs ∧ ∀ w', Keep w w' Non → ∀ j v, vs[j]? = some v → w'.cell? ⟨c.1, j, none⟩ = some v := by
  unfold cellsAt at hr
  split at hr
  · rename_i B hB
    obtain ⟨c, h1, h2⟩ := S.at_ b B hB
    cases B <;> simp only [blkCells] at hr <;> first | (cases hr; done) | cases hr
    · obtain ⟨vs, h3, h4⟩ := h2
      exact ⟨c, vs, h1, h3, fun w' K j v hv => (h4.non K).cell hv⟩
    · obtain ⟨vs, h3, h4⟩ := h2
      refine ⟨c, vs, h1, h3, fun w' K j v hv => ?_⟩
      obtain ⟨cur, g1, g2, g3, g4, g5⟩ := RowAt.cells h4
      have g1' := (K.block _ (lt_of_some g1) id).trans g1
      have : cur.toList[j]? = some v := by
        rw [← g5, List.getElem?_take] at hv
        split at hv
        · exact hv
        · cases hv
      simp only [World.cell?, g1']
      simpa using this
  · cases hr
noncomputable def c_ld (P : Program) (x : AOd) : Op → Bool
  | .load t y => aggT P t false && chkD x y
  | _ => false
theorem l_ld {x : AOd} {op : Op} (hc : c_ld P x op = true) : OkL C P op (o_ld x) := by
  intro σA h v h' hr
  unfold c_ld at hc
  split at hc
  · simp only [Bool.and_eq_true] at hc
    unfold o_ld at hr
    split at hr
    · rename_i b off hb
      split at hr
      · rename_i l hl
        obtain ⟨hr2, rfl⟩ := okV_some hr
        refine ⟨rfl, fun μ σ w hE S => ?_⟩
        obtain ⟨c, vs, h1, h2, h3⟩ := cellsAt_ok hl S
        have g := chkD_ok hc.2 hE; rw [hb] at g
        obtain ⟨c', g1, g2⟩ := g
        rw [h1] at g1; cases g1
        rw [nth_eq] at hr2
        obtain ⟨cv, g3, g4⟩ := rvL_get h2 hr2
        exact ⟨cv, g4, fun o ho w' K => Runs.ld ho g2 (aggT_ok hc.1) (h3 w' K _ _ g3)⟩
      · cases hr
    · cases hr
  · cases hc
noncomputable def c_ldA (P : Program) (n : Nat) (x : AOd) : Op → Bool
  | .load t y => (aggT P t true && szT P t n) && chkD x y
  | _ => false
theorem l_ldA {n : Nat} {x : AOd} {op : Op} (hc : c_ldA P n x op = true) : OkL C P op (o_ldA n x) := by
  intro σA h v h' hr
  unfold c_ldA at hc
  split at hc
  · simp only [Bool.and_eq_true] at hc
    unfold o_ldA at hr
    split at hr
    · rename_i b off hb
      split at hr
      · rename_i l hl
        obtain ⟨hr2, rfl⟩ := okV_some hr
        obtain ⟨r, hr3, rfl⟩ := optAgg_some hr2
        refine ⟨rfl, fun μ σ w hE S => ?_⟩
        obtain ⟨c, vs, h1, h2, h3⟩ := cellsAt_ok hl S
        have g := chkD_ok hc.2 hE; rw [hb] at g
        obtain ⟨c', g1, g2⟩ := g
        rw [h1] at g1; cases g1
        obtain ⟨g3, g4⟩ := rvL_sub hr3 h2
        refine ⟨_, ⟨_, g3, rfl⟩, fun o ho w' K => Runs.ldA ho g2 (aggT_ok hc.1.1) (szT_ok hc.1.2) (by simp; omega) fun j u hu => ?_⟩
        exact h3 w' K _ _ (sub_cells rfl j u hu)
      · cases hr
    · cases hr
  · cases hc

/-! ### New blocks -/
/-- An operation that may add to memory and write: a value. -/
def OkE (C : Chk) (P : Program) (op : Op) (f : Tr AV → AH → Option (AV × AH)) : Prop :=
  ∀ σA h v h', f σA h = some (v, h') → ∀ μ σ w, EnvR μ σA σ → Sim C P μ h w → ∀ (o : Oper), o.op = op → ∃ μ' w' cv, Ext μ h.fl.nat w μ' w' ∧ Sim C P μ' h' w' ∧ Rv μ' v cv ∧ h'.fl = h.fl ∧ Runs P σ w o cv w'
/-- The same: no value. -/
def OkU (C : Chk) (P : Program) (op : Op) (f : Tr AV → AH → Option (AV × AH)) : Prop :=
  ∀ σA h v h', f σA h = some (v, h') → ∀ μ σ w, EnvR μ σA σ → Sim C P μ h w → ∀ (o : Oper), o.op = op → ∃ μ' w', Ext μ h.fl.nat w μ' w' ∧ Sim C P μ' h' w' ∧ v = u ∧ h'.fl = h.fl ∧ Does P σ w o w'
theorem OkP.toL {op : Op} {f : Tr AV → AH → Option (AV × AH)} (hp : OkP P op f) : OkL C P op f := by
  intro σA h v h' hr
  obtain ⟨h1, h2⟩ := hp σA h v h' hr
  exact ⟨h1, fun μ σ w hE _ => let ⟨cv, g1, g2⟩ := h2 μ σ hE; ⟨cv, g1, fun o ho w' _ => g2 o w' ho⟩⟩
theorem OkL.toE {op : Op} {f : Tr AV → AH → Option (AV × AH)} (hp : OkL C P op f) : OkE C P op f := by
  intro σA h v h' hr μ σ w hE S o ho
  obtain ⟨rfl, h2⟩ := hp σA h v h' hr
  obtain ⟨cv, g1, g2⟩ := h2 μ σ w hE S
  exact ⟨μ, w, cv, Ext.refl μ _ w, S, g1, rfl, g2 o ho w (Keep.refl w _)⟩
theorem new_cells {T : TypeId} {z : List AV} {cs : List Value} (S : Sim C P μ h w) (hz : RvL μ z cs) : ∃ μ', Ext μ h.fl.nat w μ' (w.alloc (.cells cs.toArray T)) ∧ Sim C P μ' (h.push (.cells T z)) (w.alloc (.cells cs.toArray T)) ∧ (h.push (.cells T z)).fl = h.fl ∧ μ' h.nx = some ⟨w.heap.size, 0, g0⟩ := by
  have hle := Mu.add_le (c := ⟨w.heap.size, 0, g0⟩) (S.nx h.nx (Nat.le_refl _))
  obtain ⟨h1, h2, h3, h4⟩ := S.push (w' := w.alloc (.cells cs.toArray T)) (c := ⟨w.heap.size, 0, g0⟩) (B := .cells T z) (alloc_keep w _) (Nat.le_refl _) (by rw [alloc_size]; exact Nat.lt_succ_self _) ⟨cs, hz.mono hle, alloc_blk w cs T⟩
  exact ⟨_, h2, h1, h3, h4⟩
noncomputable def c_new (P : Program) (T : Nat) (z : List AV) : Op → Bool
  | .alloc t => Nat.beq T t && zT P t z
  | _ => false
theorem e_new {T : Nat} {z : List AV} {op : Op} (hc : c_new P T z op = true) : OkE C P op (o_new T z) := by
  intro σA h v h' hr μ σ w hE S o ho
  cases hr
  unfold c_new at hc
  split at hc
  · simp only [Bool.and_eq_true] at hc
    have e := Nat.eq_of_beq_eq_true hc.1
    subst e
    obtain ⟨i, zv, z1, z2, z3⟩ := zT_info hc.2
    obtain ⟨μ', h1, h2, h3, h4⟩ := new_cells (T := T) S (z3 μ)
    refine ⟨μ', _, _, h1, h2, ⟨_, h4, rfl⟩, h3, by rw [ho]; rfl, ?_⟩
    simp [execOp, ho, Instr.alloc, run_zero z1 z2, newVar, newRow, newObj, Sem.run]
  · cases hc
noncomputable def c_box (T : Nat) (x : AOd) : Op → Bool
  | .box t y => Nat.beq T t && chkD x y
  | _ => false
theorem e_box {T : Nat} {x : AOd} {op : Op} (hc : c_box T x op = true) : OkE C P op (o_box T x) := by
  intro σA h v h' hr μ σ w hE S o ho
  cases hr
  unfold c_box at hc
  split at hc
  · simp only [Bool.and_eq_true] at hc
    have e := Nat.eq_of_beq_eq_true hc.1
    subst e
    obtain ⟨vs, v1, v2⟩ := rv_cells (chkD_ok hc.2 hE)
    obtain ⟨μ', h1, h2, h3, h4⟩ := new_cells (T := T) S v1
    refine ⟨μ', _, _, h1, h2, ⟨_, h4, rfl⟩, h3, by rw [ho]; rfl, ?_⟩
    simp [execOp, ho, Instr.box, newVar, newRow, newObj, v2, Sem.run]
  · cases hc
theorem new_map (S : Sim C P μ h w) : ∃ μ', Ext μ h.fl.nat w μ' (w.alloc (.map #[] 0)) ∧ Sim C P μ' (h.push .map0) (w.alloc (.map #[] 0)) ∧ (h.push .map0).fl = h.fl ∧ μ' h.nx = some ⟨w.heap.size, 0, g0⟩ := by
  obtain ⟨h1, h2, h3, h4⟩ := S.push (w' := w.alloc (.map #[] 0)) (c := ⟨w.heap.size, 0, g0⟩) (B := .map0) (alloc_keep w _) (Nat.le_refl _) (by rw [alloc_size]; exact Nat.lt_succ_self _) ⟨0, heap_alloc_new w _⟩
  exact ⟨_, h2, h1, h3, h4⟩
def c_mkm : Op → Bool
  | .makeMap _ none => true
  | _ => false
theorem e_mkm {op : Op} (hc : c_mkm op = true) : OkE C P op o_mkm := by
  intro σA h v h' hr μ σ w hE S o ho
  cases hr
  unfold c_mkm at hc
  split at hc
  · obtain ⟨μ', h1, h2, h3, h4⟩ := new_map S
    refine ⟨μ', _, _, h1, h2, ⟨_, h4, rfl⟩, h3, by rw [ho]; rfl, ?_⟩
    simp [execOp, ho, Instr.makeMap, newObj, Sem.run, Result.andThen]
  · cases hc
theorem range_cells {zc : Array Value} {n : Nat} : ∀ c, ((Array.range (c * zc.size)).map (zc[· % zc.size]!)).toList = (List.replicate c zc.toList).flatten ∨ False := by
  intro c
  left
  induction c with
  | zero => simp
  | succ c ih =>
    rw [Array.toList_map, Array.toList_range] at ih ⊢
    rw [Nat.succ_mul, List.range_add, List.map_append, ih, List.replicate_succ', List.flatten_append]
    congr 1
    simp only [List.map_map, List.flatten_singleton]
    apply List.ext_getElem
    · simp
    · intro i h1 h2
      simp at h1
      simp [Nat.add_mul_mod_self_right, Nat.mod_eq_of_lt h1, Nat.add_comm (c * zc.size) i, h1]
noncomputable def c_mks (P : Program) (T sz by_ : Nat) (z : List AV) (x y : AOd) : Op → Bool
  | .makeSlice t x' y' => undT P t (fun d => match d with | .slice e => Nat.beq e T | _ => false) && (szT P T sz && (byT P T by_ && (zT P T z && (Nat.beq (len z) sz && (chkD x x' && chkD y y')))))
  | _ => false
theorem e_mks {T sz by_ : Nat} {z : List AV} {x y : AOd} {op : Op} (hc : c_mks P T sz by_ z x y op = true) : OkE C P op (o_mks T sz by_ z x y) := by
  intro σA h v h' hr μ σ w hE S o ho
  unfold c_mks at hc
  split at hc
  · rename_i t x' y'
    simp only [Bool.and_eq_true] at hc
    obtain ⟨c1, c2, c3, c4, c5, c6, c7⟩ := hc
    obtain ⟨d, d1, d2⟩ := undT_ok c1
    split at d2 <;> first | (cases d2; done) | skip
    have e := Nat.eq_of_beq_eq_true d2
    subst e
    rename_i e
    obtain ⟨i, i1, i2⟩ := szT_info c2
    obtain ⟨i', j1, j2⟩ := byT_info c3
    obtain ⟨i'', zv, k1, k2, k3⟩ := zT_info c4
    rw [i1] at j1 k1; cases j1; cases k1
    have hz := Nat.eq_of_beq_eq_true c5
    unfold o_mks at hr
    split at hr
    · rename_i l c hl hcc
      obtain ⟨hb, hr⟩ := ifO_some hr
      cases hr
      simp only [Bool.and_eq_true, Nat.ble_eq] at hb
      obtain ⟨⟨⟨b1, b2⟩, b3⟩, b4⟩ := hb
      have hx := chkD_ok c6 hE; rw [natOf_some hl] at hx
      have hy := chkD_ok c7 hE; rw [natOf_some hcc] at hy
      have hx : ev σ x' = .int .i64 (l : Int) := hx
      have hy : ev σ y' = .int .i64 (c : Int) := hy
      have zlen : zv.cells.size = sz := by rw [← hz, len_eq, ← rvL_len (k3 μ)]; simp
      have hrun := run_makeSlice (P := P) w t e i zv d1 i1 k2 .i64 .i64 (l : Int) (c : Int) (by omega) (by omega) (by rw [i2, Int.toNat_natCast]; exact b2) (by rw [j2]; have hb := Int.ofNat_le.2 b3; rw [Int.natCast_mul] at hb; exact hb) (by omega)
      simp only [Int.toNat_natCast, i2] at hrun
      have hcells : (madeCells zv.cells (c * sz)) = ((List.replicate c zv.cells.toList).flatten).toArray := by
        apply Array.ext'
        have := range_cells (zc := zv.cells) (n := 0) c
        simp only [or_false] at this
        rw [zlen] at this
        show ((Array.range (c * sz)).map (zv.cells[· % zv.cells.size]!)).toList = _
        rw [zlen, this]
      rw [hcells] at hrun
      obtain ⟨μ', h1, h2, h3, h4⟩ := new_cells (T := e) S (rvL_rep (k3 μ) c)
      refine ⟨μ', _, _, h1, h2, ⟨_, h4, b1, rfl⟩, h3, by rw [ho]; rfl, ?_⟩
      simp [execOp, ho, hx, hy, hrun, Result.andThen]
    · cases hr
  · cases hc
noncomputable def c_blds (P : Program) (T n : Nat) (z : List AV) (ps : List (Nat × Nat × AOd)) : Op → Bool
  | .buildSlice t m qs => Nat.beq m n && (undT P t (fun d => match d with | .slice e => Nat.beq e T | _ => false) && (match P.info? T with
      | some i => Nat.ble (n * i.size) 16777216 && (chkPs (fun k => some (k * i.size, i.size)) ps qs.toList && (match i.zero with
        | some v => okcL z ((List.range (n * i.size)).map fun k => v.cells[k % v.cells.size]!)
        | none => false))
      | none => false))
  | _ => false
theorem e_blds {T n : Nat} {z : List AV} {ps : List (Nat × Nat × AOd)} {op : Op} (hc : c_blds P T n z ps op = true) : OkE C P op (o_blds T n z ps) := by
  intro σA h v h' hr μ σ w hE S o ho
  unfold c_blds at hc
  split at hc
  · rename_i t m qs
    simp only [Bool.and_eq_true] at hc
    obtain ⟨c1, c2, c3⟩ := hc
    have e := Nat.eq_of_beq_eq_true c1
    subst e
    obtain ⟨d, d1, d2⟩ := undT_ok c2
    split at d2 <;> first | (cases d2; done) | skip
    have e := Nat.eq_of_beq_eq_true d2
    subst e
    rename_i e
    split at c3
    · rename_i i hi
      simp only [Bool.and_eq_true, Nat.ble_eq] at c3
      obtain ⟨c3, c4, c5⟩ := c3
      split at c5
      · rename_i zv hz
        unfold o_blds at hr
        split at hr
        · rename_i r hr3
          cases hr
          obtain ⟨R, r1, r2, r3⟩ := fill_ok hE hr3 c4 (okcL_ok μ c5)
          have hf := fill_of_lay _ _ _ _ r1
          obtain ⟨μ', h1, h2, h3, h4⟩ := new_cells (T := e) S r2
          refine ⟨μ', _, _, h1, h2, ⟨_, h4, Nat.le_refl _, rfl⟩, h3, by rw [ho]; rfl, ?_⟩
          have hs : ∀ w, (sizeOf e).run P w = .ok i.size w := fun w => by simp [sizeOf, typeInfo, hi]
          have hn' : ¬ m * i.size > 2 ^ 24 := by omega
          have hq : (qs.map fun (p : Nat × Operand) => (p.1, ev σ p.2)).toList = qs.toList.map fun (p : Nat × Operand) => (p.1, ev σ p.2) := by simp
          by_cases h0 : m * i.size = 0
          · rw [h0] at hf
            simp only [List.range_zero, List.map_nil] at hf
            have hr0 : (Array.range 0).map (fun x => (#[] : Array Value)[x % (#[] : Array Value).size]!) = #[] := by rw [show (Array.range 0) = #[] from rfl, Array.map_empty]
            have hn0 : ¬ (0 : Nat) > 2 ^ 24 := by decide
            simp only [execOp, ho, Instr.buildSlice, Sem.run_bind, run_und d1, hs, Result.andThen_ok, h0, if_neg hn0, if_true, Sem.run_pure, hq, hr0, hf]
            simp [newRow, newObj, Sem.run, Result.andThen]
          · have hzs : (Array.range (m * i.size)).map (zv.cells[· % zv.cells.size]!) = ((List.range (m * i.size)).map fun k => zv.cells[k % zv.cells.size]!).toArray := by rw [← List.toArray_range, List.map_toArray]
            simp only [execOp, ho, Instr.buildSlice, Sem.run_bind, run_und d1, hs, run_zero hi hz, Result.andThen_ok, if_neg hn', if_neg h0, Sem.run_pure, hq, hzs, hf]
            simp [newRow, newObj, Sem.run, Result.andThen]
        · cases hr
      · cases c5
    · cases c3
  · cases hc
end
end Go.KX
