/- Fields, elements, slices of slices, structs and arrays that are built, len, cap, min, max. -/
import Derived.Test.YtjfffcjjlnmneaaGreatXF
namespace Go.KX
open Go.RowKit Go.KL
section
variable {C : Chk} {P : Program} {μ μ' : Mu} {w w' : World} {h h' : AH} {σ : Env} {σA : Tr AV} {t e : TypeId} {o : Oper}
noncomputable def c_fad (P : Program) (off : Nat) (x : AOd) : Op → Bool
  | .fieldAddr t y i => undT P t (fun d => match d with
      | .struct fs => match fs[i]? with
        | some f => Nat.beq f.offset off && (match P.info? f.type with | some j => Nat.blt 0 j.size | none => false)
        | none => false
      | _ => false) && chkD x y
  | _ => false
theorem p_fad {off : Nat} {x : AOd} {op : Op} (hc : c_fad P off x op = true) : OkP P op (o_fad off x) := by
  intro σA h v h' hr
  unfold c_fad at hc
  split at hc
  · rename_i t y i
    simp only [Bool.and_eq_true] at hc
    obtain ⟨c1, c2⟩ := hc
    unfold o_fad at hr
    split at hr
    · rename_i b oo hb
      cases hr
      refine ⟨rfl, fun μ σ hE => ?_⟩
      have g := chkD_ok c2 hE; rw [hb] at g
      obtain ⟨c, g1, g2⟩ := g
      refine ⟨_, ⟨c, g1, rfl⟩, fun o w ho => ?_⟩
      obtain ⟨d, d1, d2⟩ := undT_ok c1
      split at d2
      · rename_i fs
        split at d2
        · rename_i f hf
          simp only [Bool.and_eq_true] at d2
          have e := Nat.eq_of_beq_eq_true d2.1
          subst e
          have d3 := d2.2
          split at d3
          · rename_i j hj
            have hpos : 0 < j.size := by simpa [Nat.blt_eq] using d3
            obtain ⟨n, hn⟩ : ∃ n, j.size = n + 1 := ⟨j.size - 1, by omega⟩
            exact Runs.fa (n := n) ho g2 (run_und d1) hf (fun w => by rw [← hn]; simp [sizeOf, typeInfo, hj])
          · cases d3
        · cases d2
      · cases d2
    · cases hr
  · cases hc
noncomputable def c_fld (P : Program) (off : Nat) (x : AOd) : Op → Bool
  | .field t y i => undT P t (fun d => match d with
      | .struct fs => match fs[i]? with
        | some f => Nat.beq f.offset off && aggT P f.type false
        | none => false
      | _ => false) && chkD x y
  | _ => false
noncomputable def c_fldA (P : Program) (off n : Nat) (x : AOd) : Op → Bool
  | .field t y i => undT P t (fun d => match d with
      | .struct fs => match fs[i]? with
        | some f => Nat.beq f.offset off && (aggT P f.type true && szT P f.type n)
        | none => false
      | _ => false) && chkD x y
  | _ => false
theorem p_fld {off : Nat} {x : AOd} {op : Op} (hc : c_fld P off x op = true) : OkP P op (o_fld off x) := by
  intro σA h v h' hr
  unfold c_fld at hc
  split at hc
  · rename_i t y i
    simp only [Bool.and_eq_true] at hc
    obtain ⟨c1, c2⟩ := hc
    unfold o_fld at hr
    split at hr
    · rename_i l hb
      obtain ⟨hr2, rfl⟩ := okV_some hr
      refine ⟨rfl, fun μ σ hE => ?_⟩
      have g := chkD_ok c2 hE; rw [hb] at g
      obtain ⟨vs, g1, g2⟩ := g
      rw [nth_eq] at hr2
      obtain ⟨cv, g3, g4⟩ := rvL_get g1 hr2
      refine ⟨cv, g4, fun o w ho => ?_⟩
      obtain ⟨d, d1, d2⟩ := undT_ok c1
      split at d2
      · split at d2
        · rename_i f hf
          simp only [Bool.and_eq_true] at d2
          have e := Nat.eq_of_beq_eq_true d2.1
          subst e
          exact Runs.fld ho g2 (run_und d1) hf (run_part1 (aggT_ok d2.2) g3)
        · cases d2
      · cases d2
    · cases hr
  · cases hc
theorem optAgg_some {x : Option (List AV)} {v : AV} (hr : optAgg x = some v) : ∃ l, x = some l ∧ v = .agg l := by
  cases x <;> cases hr; exact ⟨_, rfl, rfl⟩
theorem p_fldA {off n : Nat} {x : AOd} {op : Op} (hc : c_fldA P off n x op = true) : OkP P op (o_fldA off n x) := by
  intro σA h v h' hr
  unfold c_fldA at hc
  split at hc
  · rename_i t y i
    simp only [Bool.and_eq_true] at hc
    obtain ⟨c1, c2⟩ := hc
    unfold o_fldA at hr
    split at hr
    · rename_i l hb
      obtain ⟨hr2, rfl⟩ := okV_some hr
      obtain ⟨r, hr3, rfl⟩ := optAgg_some hr2
      refine ⟨rfl, fun μ σ hE => ?_⟩
      have g := chkD_ok c2 hE; rw [hb] at g
      obtain ⟨vs, g1, g2⟩ := g
      obtain ⟨g3, g4⟩ := rvL_sub hr3 g1
      refine ⟨_, ⟨_, g3, rfl⟩, fun o w ho => ?_⟩
      obtain ⟨d, d1, d2⟩ := undT_ok c1
      split at d2
      · split at d2
        · rename_i f hf
          simp only [Bool.and_eq_true] at d2
          have e := Nat.eq_of_beq_eq_true d2.1
          subst e
          exact Runs.fld ho g2 (run_und d1) hf (run_part (aggT_ok d2.2.1) (szT_ok d2.2.2) rfl)
        · cases d2
      · cases d2
    · cases hr
  · cases hc
theorem natOf_some {a : AV} {n : Nat} (hr : natOf a = some n) : a = .int .i64 n := by
  unfold natOf at hr
  split at hr
  · cases hr; rfl
  · cases hr
noncomputable def c_iad (P : Program) (sz : Nat) (x y : AOd) : Op → Bool
  | .indexAddr t x' y' => undT P t (fun d => match d with
      | .slice e => szT P e sz
      | _ => false) && (chkD x x' && chkD y y')
  | _ => false
theorem p_iad {sz : Nat} {x y : AOd} {op : Op} (hc : c_iad P sz x y op = true) : OkP P op (o_iad sz x y) := by
  intro σA h v h' hr
  unfold c_iad at hc
  split at hc
  · rename_i t x' y'
    simp only [Bool.and_eq_true] at hc
    obtain ⟨c1, c2, c3⟩ := hc
    obtain ⟨d, d1, d2⟩ := undT_ok c1
    split at d2
    · rename_i e
      unfold o_iad at hr
      split at hr
      · rename_i b off n c i hb hi
        obtain ⟨hlt, hr⟩ := ifO_some hr
        cases hr
        have hlt : i < n := by simpa [Nat.blt_eq] using hlt
        have hi := natOf_some hi
        refine ⟨rfl, fun μ σ hE => ?_⟩
        have g := chkD_ok c2 hE; rw [hb] at g
        have k := chkD_ok c3 hE; rw [hi] at k
        obtain ⟨m, g1, g2, g3⟩ := g
        refine ⟨_, ⟨m, g1, rfl⟩, fun o w ho => ?_⟩
        have := Runs.ia (P := P) (o := o) (w := w) (i := (i : Int)) ho g3 k (run_und d1) (szT_ok d2) (by omega) (by omega)
        simpa using this
      · rename_i b eo co n i hb hi
        obtain ⟨hlt, hr⟩ := ifO_some hr
        cases hr
        have hlt : i < n := by simpa [Nat.blt_eq] using hlt
        have hi := natOf_some hi
        refine ⟨rfl, fun μ σ hE => ?_⟩
        have g := chkD_ok c2 hE; rw [hb] at g
        have k := chkD_ok c3 hE; rw [hi] at k
        obtain ⟨m, g1, g2, g3⟩ := g
        refine ⟨_, ⟨m, g1, rfl⟩, fun o w ho => ?_⟩
        have := Runs.ia (P := P) (o := o) (w := w) (i := (i : Int)) ho g3 k (run_und d1) (szT_ok d2) (by omega) (by omega)
        simpa using this
      · cases hr
    · cases d2
  · cases hc
noncomputable def c_iadA (P : Program) (sz n : Nat) (x y : AOd) : Op → Bool
  | .indexAddr t x' y' => undT P t (fun d => match d with
      | .array m e => Nat.beq m n && szT P e sz
      | _ => false) && (chkD x x' && chkD y y')
  | _ => false
theorem p_iadA {sz n : Nat} {x y : AOd} {op : Op} (hc : c_iadA P sz n x y op = true) : OkP P op (o_iadA sz n x y) := by
  intro σA h v h' hr
  unfold c_iadA at hc
  split at hc
  · rename_i t x' y'
    simp only [Bool.and_eq_true] at hc
    obtain ⟨c1, c2, c3⟩ := hc
    obtain ⟨d, d1, d2⟩ := undT_ok c1
    split at d2
    · rename_i m e
      simp only [Bool.and_eq_true] at d2
      have em := Nat.eq_of_beq_eq_true d2.1
      subst em
      unfold o_iadA at hr
      split at hr
      · rename_i b off i hb hi
        obtain ⟨hlt, hr⟩ := ifO_some hr
        cases hr
        have hlt : i < m := by simpa [Nat.blt_eq] using hlt
        have hi := natOf_some hi
        refine ⟨rfl, fun μ σ hE => ?_⟩
        have g := chkD_ok c2 hE; rw [hb] at g
        have k := chkD_ok c3 hE; rw [hi] at k
        obtain ⟨q, g1, g3⟩ := g
        refine ⟨_, ⟨q, g1, rfl⟩, fun o w ho => ?_⟩
        have := Runs.iaA (P := P) (o := o) (w := w) (i := (i : Int)) ho g3 k (run_und d1) (szT_ok d2.2) (by omega) (by omega)
        simpa using this
      · cases hr
    · cases d2
  · cases hc
noncomputable def c_ix (P : Program) (n : Nat) (x y : AOd) : Op → Bool
  | .index t x' y' => undT P t (fun d => match d with
      | .array m e => Nat.beq m n && (szT P e 1 && aggT P e false)
      | _ => false) && (chkD x x' && chkD y y')
  | _ => false
theorem p_ix {n : Nat} {x y : AOd} {op : Op} (hc : c_ix P n x y op = true) : OkP P op (o_ix n x y) := by
  intro σA h v h' hr
  unfold c_ix at hc
  split at hc
  · rename_i t x' y'
    simp only [Bool.and_eq_true] at hc
    obtain ⟨c1, c2, c3⟩ := hc
    obtain ⟨d, d1, d2⟩ := undT_ok c1
    split at d2
    · rename_i m e
      simp only [Bool.and_eq_true] at d2
      have em := Nat.eq_of_beq_eq_true d2.1
      subst em
      unfold o_ix at hr
      split at hr
      · rename_i l i hb hi
        obtain ⟨hlt, hr⟩ := ifO_some hr
        obtain ⟨hr2, rfl⟩ := okV_some hr
        have hlt : i < m := by simpa [Nat.blt_eq] using hlt
        have hi := natOf_some hi
        refine ⟨rfl, fun μ σ hE => ?_⟩
        have g := chkD_ok c2 hE; rw [hb] at g
        have k := chkD_ok c3 hE; rw [hi] at k
        obtain ⟨vs, g1, g2⟩ := g
        rw [nth_eq] at hr2
        obtain ⟨cv, g3, g4⟩ := rvL_get g1 hr2
        refine ⟨cv, g4, fun o w ho => ?_⟩
        exact Runs.ixA (P := P) (o := o) (w := w) (i := (i : Int)) ho g2 k (run_und d1) (szT_ok d2.2.1) (by omega) (by omega) (run_part1 (aggT_ok d2.2.2) (by simpa using g3))
      · cases hr
    · cases d2
  · cases hc
noncomputable def c_ixA (P : Program) (sz n : Nat) (x y : AOd) : Op → Bool
  | .index t x' y' => undT P t (fun d => match d with
      | .array m e => Nat.beq m n && (szT P e sz && aggT P e true)
      | _ => false) && (chkD x x' && chkD y y')
  | _ => false
theorem p_ixA {sz n : Nat} {x y : AOd} {op : Op} (hc : c_ixA P sz n x y op = true) : OkP P op (o_ixA sz n x y) := by
  intro σA h v h' hr
  unfold c_ixA at hc
  split at hc
  · rename_i t x' y'
    simp only [Bool.and_eq_true] at hc
    obtain ⟨c1, c2, c3⟩ := hc
    obtain ⟨d, d1, d2⟩ := undT_ok c1
    split at d2
    · rename_i m e
      simp only [Bool.and_eq_true] at d2
      have em := Nat.eq_of_beq_eq_true d2.1
      subst em
      unfold o_ixA at hr
      split at hr
      · rename_i l i hb hi
        obtain ⟨hlt, hr⟩ := ifO_some hr
        obtain ⟨hr2, rfl⟩ := okV_some hr
        obtain ⟨r, hr3, rfl⟩ := optAgg_some hr2
        have hlt : i < m := by simpa [Nat.blt_eq] using hlt
        have hi := natOf_some hi
        refine ⟨rfl, fun μ σ hE => ?_⟩
        have g := chkD_ok c2 hE; rw [hb] at g
        have k := chkD_ok c3 hE; rw [hi] at k
        obtain ⟨vs, g1, g2⟩ := g
        obtain ⟨g3, g4⟩ := rvL_sub hr3 g1
        refine ⟨_, ⟨_, g3, rfl⟩, fun o w ho => ?_⟩
        exact Runs.ixA (P := P) (o := o) (w := w) (i := (i : Int)) ho g2 k (run_und d1) (szT_ok d2.2.1) (by omega) (by omega) (run_part (aggT_ok d2.2.2) (szT_ok d2.2.1) (by simp))
      · cases hr
    · cases d2
  · cases hc

/-! slices of slices -/
noncomputable def chkO : Option AOd → Option Operand → Bool
  | none, none => true
  | some x, some y => chkD x y
  | _, _ => false
theorem bnd_ok {x : Option AOd} {y : Option Operand} {r : Option Nat} (hr : bnd σA x = some r) (hc : chkO x y = true) (hE : EnvR μ σA σ) : (r = none ∧ y = none) ∨ ∃ n z, r = some n ∧ y = some z ∧ ev σ z = .int .i64 n := by
  cases x with
  | none =>
    cases y with
    | none => cases hr; exact .inl ⟨rfl, rfl⟩
    | some _ => cases hc
  | some x =>
    cases y with
    | none => cases hc
    | some y =>
      simp only [bnd] at hr
      split at hr
      · rename_i n hn
        cases hr
        have := chkD_ok (show chkD x y = true from hc) hE
        rw [natOf_some hn] at this
        exact .inr ⟨n, y, rfl, rfl, this⟩
      · cases hr
def vI (n : Nat) : Value := .int .i64 (n : Int)
theorem run_bound {P : Program} {n y : Nat} {code : BoundsCode} (hle : n ≤ y) (w : World) : (Instr.sliceBound (vI n) y code).run P w = .ok n w := by
  have h1 : (n : Int) ≤ y := by omega
  simp [Instr.sliceBound, vI, asIntOf, h1]
/-- The bounds of a slice expression. -/
theorem run_bounds {P : Program} {s : Bool} {len cap : Nat} {lo hi mx : Option Nat} {l hh m : Nat} (hm : m = mx.getD cap) (hh' : hh = hi.getD len) (hl : l = lo.getD 0) (h1 : l ≤ hh) (h2 : hh ≤ m) (h3 : m ≤ cap) (hmh : mx.isSome = true → hi.isSome = true) (w : World) :
    (Instr.sliceBounds s len cap (lo.map vI) (hi.map vI) (mx.map vI)).run P w = .ok (l, hh, m) w := by
  subst hm hh' hl
  unfold Instr.sliceBounds
  cases mx <;> cases hi <;> cases lo <;> simp only [Option.getD_none, Option.getD_some] at h1 h2 h3 <;> (try (simp at hmh; done)) <;> simp [run_bound h1, run_bound h2, run_bound h3]
theorem bnds_ok {x : Option AOd} {y : Option Operand} {r : Option Nat} (hr : bnd σA x = some r) (hc : chkO x y = true) (hE : EnvR μ σA σ) : y.map (ev σ) = r.map vI := by
  rcases bnd_ok hr hc hE with ⟨rfl, rfl⟩ | ⟨n, z, rfl, rfl, h1⟩
  · rfl
  · simp [h1, vI]
theorem add_off (b off n : Nat) : (Addr.add ⟨b, off, none⟩ n) = ⟨b, off + n, none⟩ := add_none b off n
/-- slcV and the model's slice. -/
theorem slcV_ok {P : Program} {sz : Nat} {a v : AV} {x : Value} {lo hi mx : Option Nat} (hr0 : slcV sz a (orD lo 0) hi mx = some v) (hx : Rv μ a x) (hmh : mx.isSome = true → hi.isSome = true) :
    ∃ A len cap cv l hh m, x = .slice A len cap ∧ Rv μ v cv ∧ (∀ s w, (Instr.sliceBounds s len cap (lo.map vI) (hi.map vI) (mx.map vI)).run P w = .ok (l, hh, m) w) ∧
      cv = .slice (if m = l then A else A.map (·.add (l * sz))) (hh - l) (m - l) := by
  obtain ⟨l, hl, hr⟩ : ∃ l, lo.getD 0 = l ∧ slcV sz a l hi mx = some v := ⟨_, rfl, by rw [← orD_eq]; exact hr0⟩
  clear hr0
  unfold slcV at hr
  split at hr
  · obtain ⟨hb, hr⟩ := ifO_some hr
    cases hr
    simp only [Bool.and_eq_true] at hb
    obtain ⟨⟨b1, b2⟩, b3⟩ := hb
    have l0 := Nat.eq_of_beq_eq_true b1
    have hx : x = .slice none 0 0 := hx
    subst hx
    have h2 : hi.getD 0 = 0 := by cases hi with | none => rfl | some n => exact Nat.eq_of_beq_eq_true b2
    have h3 : mx.getD 0 = 0 := by cases mx with | none => rfl | some n => exact Nat.eq_of_beq_eq_true b3
    refine ⟨none, 0, 0, _, 0, 0, 0, rfl, (rfl : Rv μ .snil _), fun s w => run_bounds h3.symm h2.symm (by rw [hl, l0]) (Nat.le_refl _) (Nat.le_refl _) (Nat.le_refl _) hmh w, by simp⟩
  · rename_i b off n c
    obtain ⟨d, g1, g2, rfl⟩ := hx
    simp only [orD_eq] at hr
    obtain ⟨hb, hr⟩ := ifO_some hr
    cases hr
    simp only [Bool.and_eq_true, Nat.ble_eq] at hb
    obtain ⟨⟨b1, b2⟩, b3⟩ := hb
    refine ⟨_, n, c, _, l, hi.getD n, mx.getD c, rfl, ⟨d, g1, by omega, rfl⟩, fun s w => run_bounds rfl rfl hl.symm b1 b2 b3 hmh w, ?_⟩
    by_cases e : mx.getD c = l
    · simp [e]
    · have : Nat.beq (mx.getD c) l = false := by
        cases hq : Nat.beq (mx.getD c) l with
        | false => rfl
        | true => exact absurd (Nat.eq_of_beq_eq_true hq) e
      simp [e, this, add_off]
  · rename_i b eo co n
    obtain ⟨d, g1, g2, rfl⟩ := hx
    simp only [orD_eq] at hr
    split at hr
    · obtain ⟨hb, hr⟩ := ifO_some hr
      simp only [Bool.and_eq_true, Nat.ble_eq] at hb
      obtain ⟨b1, b2⟩ := hb
      have fin : ∀ cv, cv = Value.slice (if d.2 - eo = l then some ⟨d.1, co, none⟩ else (some (⟨d.1, co, none⟩ : Addr)).map (·.add (l * sz))) (hi.getD n - l) (d.2 - eo - l) → Rv μ v cv →
          ∃ A len cap cv l hh m, Value.slice (some ⟨d.1, co, none⟩) n (d.2 - eo) = .slice A len cap ∧ Rv μ v cv ∧ (∀ s w, (Instr.sliceBounds s len cap (lo.map vI) (hi.map vI) ((none : Option Nat).map vI)).run P w = .ok (l, hh, m) w) ∧
            cv = .slice (if m = l then A else A.map (·.add (l * sz))) (hh - l) (m - l) := fun cv e hv =>
        ⟨_, n, d.2 - eo, cv, l, hi.getD n, d.2 - eo, rfl, hv, fun s w => run_bounds rfl rfl hl.symm b1 (by simp only [Option.getD_none]; omega) (Nat.le_refl _) hmh w, e⟩
      split at hr
      · cases hr
        refine fin _ rfl ⟨d, g1, by omega, ?_⟩
        simp [Addr.add]
      · rename_i l0
        split at hr
        · rename_i hlt
          cases hr
          have hlt : l < n := by simpa [Nat.blt_eq] using hlt
          refine fin _ rfl ⟨d, g1, by omega, ?_⟩
          rw [if_neg (by omega)]
          simp [add_off, Nat.sub_sub]
        · rename_i hlt
          cases hr
          have hlt : ¬ l < n := by
            intro hq
            have : Nat.blt l n = true := by rw [Nat.blt_eq]; exact hq
            rw [this] at hlt; cases hlt
          have e1 : hi.getD n - l = 0 := by omega
          refine fin _ rfl ?_
          rw [e1]
          by_cases e2 : d.2 - eo = l
          · rw [if_pos e2]; exact ⟨d, g1, co, by congr 1; omega⟩
          · rw [if_neg e2]; exact ⟨d, g1, co + l * sz, by simp only [Option.map_some, add_off]; congr 1; omega⟩
    · rename_i m
      obtain ⟨hb, hr⟩ := ifO_some hr
      cases hr
      simp only [Bool.and_eq_true, Nat.ble_eq] at hb
      obtain ⟨⟨b1, b2⟩, b3⟩ := hb
      refine ⟨_, n, d.2 - eo, _, l, hi.getD n, m, rfl, ⟨d, g1, by omega, rfl⟩, fun s w => run_bounds (mx := some m) rfl rfl hl.symm b1 b2 (by simp only [Option.getD_some]; omega) hmh w, ?_⟩
      by_cases e : m = l
      · simp [e]
      · have : Nat.beq m l = false := by
          cases hq : Nat.beq m l with
          | false => rfl
          | true => exact absurd (Nat.eq_of_beq_eq_true hq) e
        simp [e, this, add_off]
  · cases hr
noncomputable def c_slc (P : Program) (sz : Nat) (x : AOd) (lo hi mx : Option AOd) : Op → Bool
  | .slice t y l m n => undT P t (fun d => match d with
      | .slice e => szT P e sz
      | _ => false) && (chkD x y && (chkO lo l && (chkO hi m && (chkO mx n && (!mx.isSome || hi.isSome)))))
  | _ => false
theorem p_slc {sz : Nat} {x : AOd} {lo hi mx : Option AOd} {op : Op} (hc : c_slc P sz x lo hi mx op = true) : OkP P op (o_slc sz x lo hi mx) := by
  intro σA h v h' hr
  unfold c_slc at hc
  split at hc
  · rename_i t y l m n
    simp only [Bool.and_eq_true] at hc
    obtain ⟨c1, c2, c3, c4, c5, c6⟩ := hc
    obtain ⟨d, d1, d2⟩ := undT_ok c1
    split at d2
    · rename_i e
      unfold o_slc at hr
      split at hr
      · rename_i rl rh rm h1 h2 h3
        obtain ⟨hr2, rfl⟩ := okV_some hr
        refine ⟨rfl, fun μ σ hE => ?_⟩
        have hmh : rm.isSome = true → rh.isSome = true := by
          intro hs
          rcases bnd_ok h3 c5 hE with ⟨rfl, _⟩ | ⟨_, z, rfl, rfl, _⟩
          · cases hs
          · cases mx with
            | none => simp [bnd] at h3
            | some _ =>
              cases hi with
              | none => simp at c6
              | some _ =>
                rcases bnd_ok h2 c4 hE with ⟨rfl, e0⟩ | ⟨_, _, rfl, _⟩
                · subst e0; simp [chkO] at c4
                · rfl
        obtain ⟨A, len, cap, cv, ll, hh, mm, e1, e2, e3, e4⟩ := slcV_ok (P := P) hr2 (chkD_ok c2 hE) hmh
        refine ⟨cv, e2, fun o w ho => ⟨by rw [ho]; rfl, ?_⟩⟩
        have b1 := bnds_ok h1 c3 hE
        have b2 := bnds_ok h2 c4 hE
        have b3 := bnds_ok h3 c5 hE
        simp [execOp, ho, Instr.sliceAt, Instr.slice, run_und d1, e1, b1, b2, b3, e3, szT_ok d2, e4]
      · cases hr
    · cases d2
  · cases hc
noncomputable def c_slcA (P : Program) (sz n : Nat) (x : AOd) (lo hi : Option AOd) : Op → Bool
  | .slice t y l m none => undT P t (fun d => match d with
      | .array k e => Nat.beq k n && szT P e sz
      | _ => false) && (chkD x y && (chkO lo l && chkO hi m))
  | _ => false
theorem p_slcA {sz n : Nat} {x : AOd} {lo hi : Option AOd} {op : Op} (hc : c_slcA P sz n x lo hi op = true) : OkP P op (o_slcA sz n x lo hi) := by
  intro σA h v h' hr
  unfold c_slcA at hc
  split at hc
  · rename_i t y l m
    simp only [Bool.and_eq_true] at hc
    obtain ⟨c1, c2, c3, c4⟩ := hc
    obtain ⟨d, d1, d2⟩ := undT_ok c1
    split at d2
    · rename_i k e
      simp only [Bool.and_eq_true] at d2
      have ek := Nat.eq_of_beq_eq_true d2.1
      subst ek
      unfold o_slcA at hr
      split at hr
      · rename_i rl rh b off h1 h2 hb
        obtain ⟨hr2, rfl⟩ := okV_some hr
        refine ⟨rfl, fun μ σ hE => ?_⟩
        have g := chkD_ok c2 hE; rw [hb] at g
        obtain ⟨c, g1, g2⟩ := g
        obtain ⟨A, len, cap, cv, ll, hh, mm, e1, e2, e3, e4⟩ := slcV_ok (P := P) (μ := μ) (x := .slice (some ⟨c.1, off, none⟩) k k) hr2 ⟨c, g1, Nat.le_refl _, rfl⟩ (by intro hs; cases hs)
        cases e1
        refine ⟨cv, e2, fun o w ho => ⟨by rw [ho]; rfl, ?_⟩⟩
        have b1 := bnds_ok h1 c3 hE
        have b2 := bnds_ok h2 c4 hE
        have e3' := e3 false
        simp only [Option.map_none] at e3'
        simp [execOp, ho, Instr.sliceAt, run_und d1, g2, Instr.sureAddr, b1, b2, e3', szT_ok d2.2, e4]
        split <;> simp
      · cases hr
    · cases d2
  · cases hc
end
end Go.KX
