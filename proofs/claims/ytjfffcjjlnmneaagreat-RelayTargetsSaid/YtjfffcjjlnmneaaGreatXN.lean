/- Allocations in any order: what they leave, by the operands alone; a rule for regions by what is done. -/
import Derived.Test.YtjfffcjjlnmneaaGreatXK
namespace Go.KX
open Go.RowKit Go.KL

section
variable {C : Chk} {P : Program} {tb : Tr AF} {ex exY : Run}
/-- An operation that makes a block: the machine's block and value; the block and the value of the model, the same in all worlds. -/
def OkA (C : Chk) (P : Program) (op : Op) (f : Tr AV → AH → Option (AV × AH)) : Prop :=
  ∀ σA h v h', f σA h = some (v, h') → ∃ (B : AB) (vf : Pos → AV), h' = h.push B ∧ v = vf h.nx ∧ (∀ h2 : AH, f σA h2 = some (vf h2.nx, h2.push B)) ∧ live B ∧ ∀ μ σ, EnvR μ σA σ → ∀ o : Oper, o.op = op →
    ∃ (ob : Obj) (val : Nat → Value), (∀ w : World, Runs P σ w o (val w.heap.size) (w.alloc ob)) ∧
      (∀ μ' (w : World) b, μ.Le μ' → w.heap[b]? = some ob → AbR C P μ' w ⟨b, 0, g0⟩ B) ∧ ∀ μ' p b, μ' p = some ⟨b, 0, g0⟩ → Rv μ' (vf p) (val b)
theorem if_pos_ifO {α : Type} {b : Bool} {x : Option α} (h : b = true) : ifO b x = x := by subst h; rfl
theorem a_new {T : Nat} {z : List AV} {op : Op} (hc : c_new P T z op = true) : OkA C P op (o_new T z) := by
  intro σA h v h' hr
  cases hr
  unfold c_new at hc
  split at hc
  · simp only [Bool.and_eq_true] at hc
    have e := Nat.eq_of_beq_eq_true hc.1
    subst e
    obtain ⟨i, zv, z1, z2, z3⟩ := zT_info hc.2
    refine ⟨.cells T z, fun p => .ptr p 0, rfl, rfl, fun h2 => rfl, trivial, fun μ σ hE o ho => ?_⟩
    refine ⟨_, fun b => .pointer (some ⟨b, 0, none⟩), fun w => ⟨by rw [ho]; rfl, ?_⟩, fun μ' w b hm hb => ⟨_, z3 μ', hb⟩, fun μ' p b hp => ⟨_, hp, rfl⟩⟩
    simp [execOp, ho, Instr.alloc, run_zero z1 z2, newVar, newRow, newObj, Sem.run]
  · cases hc
theorem a_box {T : Nat} {x : AOd} {op : Op} (hc : c_box T x op = true) : OkA C P op (o_box T x) := by
  intro σA h v h' hr
  cases hr
  unfold c_box at hc
  split at hc
  · simp only [Bool.and_eq_true] at hc
    have e := Nat.eq_of_beq_eq_true hc.1
    subst e
    refine ⟨.cells T _, fun p => .ptr p 0, rfl, rfl, fun h2 => rfl, trivial, fun μ σ hE o ho => ?_⟩
    obtain ⟨vs, v1, v2⟩ := rv_cells (chkD_ok hc.2 hE)
    refine ⟨.cells vs.toArray T, fun b => .pointer (some ⟨b, 0, none⟩), fun w => ⟨by rw [ho]; rfl, ?_⟩, fun μ' w b hm hb => ⟨vs, v1.mono hm, hb⟩, fun μ' p b hp => ⟨_, hp, rfl⟩⟩
    simp [execOp, ho, Instr.box, newVar, newRow, newObj, v2, Sem.run]
  · cases hc
theorem a_mkm {op : Op} (hc : c_mkm op = true) : OkA C P op o_mkm := by
  intro σA h v h' hr
  cases hr
  unfold c_mkm at hc
  split at hc
  · refine ⟨.map0, fun p => .map p, rfl, rfl, fun h2 => rfl, trivial, fun μ σ hE o ho => ?_⟩
    refine ⟨.map #[] 0, fun b => .map (some b), fun w => ⟨by rw [ho]; rfl, ?_⟩, fun μ' w b hm hb => ⟨0, hb⟩, fun μ' p b hp => ⟨_, hp, rfl⟩⟩
    simp [execOp, ho, Instr.makeMap, newObj, Sem.run, Result.andThen]
  · cases hc
theorem a_mks {T sz by_ : Nat} {z : List AV} {x y : AOd} {op : Op} (hc : c_mks P T sz by_ z x y op = true) : OkA C P op (o_mks T sz by_ z x y) := by
  intro σA h v h' hr
  unfold c_mks at hc
  split at hc
  · rename_i t x' y'
    simp only [Bool.and_eq_true] at hc
    obtain ⟨c1, c2, c3, c4, c5, c6, c7⟩ := hc
    obtain ⟨d, d1, d2⟩ := undT_ok c1
    split at d2 <;> first | (cases d2; done) | skip
    have e := Nat.eq_of_beq_eq_true d2
    subst e
    rename_i e
    obtain ⟨i, i1, i2⟩ := szT_info c2
    obtain ⟨i', j1, j2⟩ := byT_info c3
    obtain ⟨i'', zv, k1, k2, k3⟩ := zT_info c4
    rw [i1] at j1 k1; cases j1; cases k1
    have hz := Nat.eq_of_beq_eq_true c5
    unfold o_mks at hr
    split at hr
    · rename_i l c hl hcc
      obtain ⟨hb, hr⟩ := ifO_some hr
      cases hr
      simp only [Bool.and_eq_true, Nat.ble_eq] at hb
      obtain ⟨⟨⟨b1, b2⟩, b3⟩, b4⟩ := hb
      refine ⟨.cells e (rep c z), fun p => .sl p 0 l c, rfl, rfl, fun h2 => (by simp only [o_mks, hl, hcc]; exact if_pos_ifO (by simp [b1, b2, b3, b4])), trivial, fun μ σ hE o ho => ?_⟩
      have hx := chkD_ok c6 hE; rw [natOf_some hl] at hx
      have hy := chkD_ok c7 hE; rw [natOf_some hcc] at hy
      have hx : ev σ x' = .int .i64 (l : Int) := hx
      have hy : ev σ y' = .int .i64 (c : Int) := hy
      have zlen : zv.cells.size = sz := by rw [← hz, len_eq, ← rvL_len (k3 μ)]; simp
      have hcells : (madeCells zv.cells (c * sz)) = ((List.replicate c zv.cells.toList).flatten).toArray := by
        apply Array.ext'
        have := range_cells (zc := zv.cells) (n := 0) c
        simp only [or_false] at this
        rw [zlen] at this
        show ((Array.range (c * sz)).map (zv.cells[· % zv.cells.size]!)).toList = _
        rw [zlen, this]
      refine ⟨.cells ((List.replicate c zv.cells.toList).flatten).toArray e, fun b => .slice (some ⟨b, 0, none⟩) l c, fun w => ⟨by rw [ho]; rfl, ?_⟩, fun μ' w b hm hb => ⟨_, rvL_rep (k3 μ') c, hb⟩, fun μ' p b hp => ⟨_, hp, b1, rfl⟩⟩
      have hrun := run_makeSlice (P := P) w t e i zv d1 i1 k2 .i64 .i64 (l : Int) (c : Int) (by omega) (by omega) (by rw [i2, Int.toNat_natCast]; exact b2) (by rw [j2]; have hb := Int.ofNat_le.2 b3; rw [Int.natCast_mul] at hb; exact hb) (by omega)
      simp only [Int.toNat_natCast, i2] at hrun
      rw [hcells] at hrun
      simp [execOp, ho, hx, hy, hrun, Result.andThen]
    · cases hr
  · cases hc

theorem a_blds {T n : Nat} {z : List AV} {ps : List (Nat × Nat × AOd)} {op : Op} (hc : c_blds P T n z ps op = true) : OkA C P op (o_blds T n z ps) := by
  intro σA h v h' hr
  unfold c_blds at hc
  split at hc
  · rename_i t m qs
    simp only [Bool.and_eq_true] at hc
    obtain ⟨c1, c2, c3⟩ := hc
    have e := Nat.eq_of_beq_eq_true c1
    subst e
    obtain ⟨d, d1, d2⟩ := undT_ok c2
    split at d2 <;> first | (cases d2; done) | skip
    have e := Nat.eq_of_beq_eq_true d2
    subst e
    rename_i e
    split at c3
    · rename_i i hi
      simp only [Bool.and_eq_true, Nat.ble_eq] at c3
      obtain ⟨c3, c4, c5⟩ := c3
      split at c5
      · rename_i zv hz
        unfold o_blds at hr
        split at hr
        · rename_i r hr3
          cases hr
          refine ⟨.cells e r, fun p => .sl p 0 m m, rfl, rfl, fun h2 => by simp only [o_blds, hr3], trivial, fun μ σ hE o ho => ?_⟩
          obtain ⟨R, r1, r2, r3⟩ := fill_ok hE hr3 c4 (okcL_ok μ c5)
          have hf := fill_of_lay _ _ _ _ r1
          refine ⟨.cells R.toArray e, fun b => .slice (some ⟨b, 0, none⟩) m m, fun w => ⟨by rw [ho]; rfl, ?_⟩, fun μ' w b hm hb => ⟨_, r2.mono hm, hb⟩, fun μ' p b hp => ⟨_, hp, Nat.le_refl _, rfl⟩⟩
          have hs : ∀ w, (sizeOf e).run P w = .ok i.size w := fun w => by simp [sizeOf, typeInfo, hi]
          have hn' : ¬ m * i.size > 2 ^ 24 := by omega
          have hq : (qs.map fun (p : Nat × Operand) => (p.1, ev σ p.2)).toList = qs.toList.map fun (p : Nat × Operand) => (p.1, ev σ p.2) := by simp
          by_cases h0 : m * i.size = 0
          · rw [h0] at hf
            simp only [List.range_zero, List.map_nil] at hf
            have hr0 : (Array.range 0).map (fun x => (#[] : Array Value)[x % (#[] : Array Value).size]!) = #[] := by rw [show (Array.range 0) = #[] from rfl, Array.map_empty]
            have hn0 : ¬ (0 : Nat) > 2 ^ 24 := by decide
            simp only [execOp, ho, Instr.buildSlice, Sem.run_bind, run_und d1, hs, Result.andThen_ok, h0, if_neg hn0, if_true, Sem.run_pure, hq, hr0, hf]
            simp [newRow, newObj, Sem.run, Result.andThen]
          · have hzs : (Array.range (m * i.size)).map (zv.cells[· % zv.cells.size]!) = ((List.range (m * i.size)).map fun k => zv.cells[k % zv.cells.size]!).toArray := by rw [← List.toArray_range, List.map_toArray]
            simp only [execOp, ho, Instr.buildSlice, Sem.run_bind, run_und d1, hs, run_zero hi hz, Result.andThen_ok, if_neg hn', if_neg h0, Sem.run_pure, hq, hzs, hf]
            simp [newRow, newObj, Sem.run, Result.andThen]
        · cases hr
      · cases c5
    · cases c3
  · cases hc

/-! ### What operations look at -/
/-- The operands of an operation. -/
def opsA : AOp → List AOd
  | .mv x => [x]
  | .pick c x y => [c] ++ [x] ++ [y]
  | .new _ _ => []
  | .box _ x => [x]
  | .ld x => [x]
  | .ldA _ x => [x]
  | .st _ x y => [x] ++ [y]
  | .nilc x => [x]
  | .add x y => [x] ++ [y]
  | .sub x y => [x] ++ [y]
  | .mul x y => [x] ++ [y]
  | .quo x y => [x] ++ [y]
  | .rem x y => [x] ++ [y]
  | .lss x y => [x] ++ [y]
  | .leq x y => [x] ++ [y]
  | .gtr x y => [x] ++ [y]
  | .geq x y => [x] ++ [y]
  | .eql x y => [x] ++ [y]
  | .neq x y => [x] ++ [y]
  | .eqb _ x y => [x] ++ [y]
  | .eqn _ _ x y => [x] ++ [y]
  | .eqs _ _ x y => [x] ++ [y]
  | .neg x => [x]
  | .not x => [x]
  | .cvt _ x => [x]
  | .mkf _ fi ca => fi ++ ca
  | .mkm  => []
  | .mks _ _ _ _ x y => [x] ++ [y]
  | .slc _ x lo hi mx => [x] ++ lo.toList ++ hi.toList ++ mx.toList
  | .slcA _ _ x lo hi => [x] ++ lo.toList ++ hi.toList
  | .fad _ x => [x]
  | .fld _ x => [x]
  | .fldA _ _ x => [x]
  | .iad _ x y => [x] ++ [y]
  | .iadA _ _ x y => [x] ++ [y]
  | .ix _ x y => [x] ++ [y]
  | .ixA _ _ x y => [x] ++ [y]
  | .lk _ _ _ _ x y => [x] ++ [y]
  | .mput _ _ x y z => [x] ++ [y] ++ [z]
  | .mdel _ _ x y => [x] ++ [y]
  | .ext _ x => [x]
  | .bld _ ps => (ps.map fun q => q.2.2)
  | .blds _ _ _ ps => (ps.map fun q => q.2.2)
  | .len x => [x]
  | .lenM x => [x]
  | .cap x => [x]
  | .app _ _ _ x y => [x] ++ [y]
  | .cpy _ x y => [x] ++ [y]
  | .clr _ x => [x]
  | .min x y => [x] ++ [y]
  | .max x y => [x] ++ [y]
  | .and x y => [x] ++ [y]
  | .shr x y => [x] ++ [y]
  | .ixs _ y => [y]
  | .apz _ _ _ _ x y => [x] ++ [y]
  | .call x l => [x] ++ l
  | .bad => []
theorem evs_congr {σ1 σ2 : Tr AV} : ∀ {l : List AOd}, (∀ x ∈ l, evA σ1 x = evA σ2 x) → evs σ1 l = evs σ2 l
  | [], _ => rfl
  | x :: l, h => by
    show evA σ1 x :: evs σ1 l = evA σ2 x :: evs σ2 l
    rw [h x (by simp), evs_congr fun y hy => h y (by simp [hy])]
theorem fillA_congr {σ1 σ2 : Tr AV} : ∀ {ps : List (Nat × Nat × AOd)} {cs : List AV}, (∀ q ∈ ps, evA σ1 q.2.2 = evA σ2 q.2.2) → fillA σ1 cs ps = fillA σ2 cs ps
  | [], cs, _ => rfl
  | (off, n, x) :: ps, cs, h => by
    have e : evA σ1 x = evA σ2 x := h (off, n, x) (by simp)
    simp only [fillA, e]
    cases Nat.beq (len (evA σ2 x).cells) n with
    | false => rfl
    | true =>
      cases over cs off (evA σ2 x).cells with
      | none => rfl
      | some cs' => exact fillA_congr fun q hq => h q (by simp [hq])
theorem bnd_congr {σ1 σ2 : Tr AV} {o : Option AOd} (h : ∀ x ∈ o.toList, evA σ1 x = evA σ2 x) : bnd σ1 o = bnd σ2 o := by
  cases o with
  | none => rfl
  | some x =>
    have e := h x (by simp)
    simp only [bnd, e]
theorem opY_congr {σ1 σ2 : Tr AV} (op : AOp) (h : ∀ x ∈ opsA op, evA σ1 x = evA σ2 x) (hh : AH) : opY op tb ex exY σ1 hh = opY op tb ex exY σ2 hh := by
  cases op with
  | bld z ps => exact (show o_bld z ps σ1 hh = o_bld z ps σ2 hh by simp only [o_bld]; rw [fillA_congr fun q hq => h q.2.2 (List.mem_map.2 ⟨q, hq, rfl⟩)])
  | blds T n z ps => exact (show o_blds T n z ps σ1 hh = o_blds T n z ps σ2 hh by simp only [o_blds]; rw [fillA_congr fun q hq => h q.2.2 (List.mem_map.2 ⟨q, hq, rfl⟩)])
  | mkf f fi ca => exact (show o_mkf f fi ca σ1 hh = o_mkf f fi ca σ2 hh by simp only [o_mkf]; rw [evs_congr fun x hx => h x (List.mem_append_left _ hx), evs_congr fun x hx => h x (List.mem_append_right _ hx)])
  | call x l => exact (show o_call x l tb ex exY σ1 hh = o_call x l tb ex exY σ2 hh by simp only [o_call]; rw [h x (List.mem_append_left _ (by simp)), evs_congr fun y hy => h y (List.mem_append_right _ hy)])
  | slc sz x lo hi mx => exact (show o_slc sz x lo hi mx σ1 hh = o_slc sz x lo hi mx σ2 hh by
      simp only [o_slc]
      rw [h x (by simp [opsA]), bnd_congr fun y hy => h y (by simp only [opsA, List.mem_append]; exact .inl (.inl (.inr hy))), bnd_congr fun y hy => h y (by simp only [opsA, List.mem_append]; exact .inl (.inr hy)), bnd_congr fun y hy => h y (by simp only [opsA, List.mem_append]; exact .inr hy)])
  | slcA sz n x lo hi => exact (show o_slcA sz n x lo hi σ1 hh = o_slcA sz n x lo hi σ2 hh by
      simp only [o_slcA]
      rw [h x (by simp [opsA]), bnd_congr fun y hy => h y (by simp only [opsA, List.mem_append]; exact .inl (.inr hy)), bnd_congr fun y hy => h y (by simp only [opsA, List.mem_append]; exact .inr hy)])
  | mv a_x => exact (show o_mv a_x σ1 hh = o_mv a_x σ2 hh by simp only [o_mv, h a_x (by simp [opsA])])
  | pick a_c a_x a_y => exact (show o_pick a_c a_x a_y σ1 hh = o_pick a_c a_x a_y σ2 hh by simp only [o_pick, h a_c (by simp [opsA]), h a_x (by simp [opsA]), h a_y (by simp [opsA])])
  | new a_T a_z => rfl
  | box a_T a_x => exact (show o_box a_T a_x σ1 hh = o_box a_T a_x σ2 hh by simp only [o_box, h a_x (by simp [opsA])])
  | ld a_x => exact (show o_ld a_x σ1 hh = o_ld a_x σ2 hh by simp only [o_ld, h a_x (by simp [opsA])])
  | ldA a_n a_x => exact (show o_ldA a_n a_x σ1 hh = o_ldA a_n a_x σ2 hh by simp only [o_ldA, h a_x (by simp [opsA])])
  | st a_n a_x a_y => exact (show o_st a_n a_x a_y σ1 hh = o_st a_n a_x a_y σ2 hh by simp only [o_st, h a_x (by simp [opsA]), h a_y (by simp [opsA])])
  | nilc a_x => exact (show o_nilc a_x σ1 hh = o_nilc a_x σ2 hh by simp only [o_nilc, h a_x (by simp [opsA])])
  | add a_x a_y => exact (show o_add a_x a_y σ1 hh = o_add a_x a_y σ2 hh by simp only [o_add, h a_x (by simp [opsA]), h a_y (by simp [opsA])])
  | sub a_x a_y => exact (show o_sub a_x a_y σ1 hh = o_sub a_x a_y σ2 hh by simp only [o_sub, h a_x (by simp [opsA]), h a_y (by simp [opsA])])
  | mul a_x a_y => exact (show o_mul a_x a_y σ1 hh = o_mul a_x a_y σ2 hh by simp only [o_mul, h a_x (by simp [opsA]), h a_y (by simp [opsA])])
  | quo a_x a_y => exact (show o_quo a_x a_y σ1 hh = o_quo a_x a_y σ2 hh by simp only [o_quo, h a_x (by simp [opsA]), h a_y (by simp [opsA])])
  | rem a_x a_y => exact (show o_rem a_x a_y σ1 hh = o_rem a_x a_y σ2 hh by simp only [o_rem, h a_x (by simp [opsA]), h a_y (by simp [opsA])])
  | lss a_x a_y => exact (show o_lss a_x a_y σ1 hh = o_lss a_x a_y σ2 hh by simp only [o_lss, h a_x (by simp [opsA]), h a_y (by simp [opsA])])
  | leq a_x a_y => exact (show o_leq a_x a_y σ1 hh = o_leq a_x a_y σ2 hh by simp only [o_leq, h a_x (by simp [opsA]), h a_y (by simp [opsA])])
  | gtr a_x a_y => exact (show o_gtr a_x a_y σ1 hh = o_gtr a_x a_y σ2 hh by simp only [o_gtr, h a_x (by simp [opsA]), h a_y (by simp [opsA])])
  | geq a_x a_y => exact (show o_geq a_x a_y σ1 hh = o_geq a_x a_y σ2 hh by simp only [o_geq, h a_x (by simp [opsA]), h a_y (by simp [opsA])])
  | eql a_x a_y => exact (show o_eql a_x a_y σ1 hh = o_eql a_x a_y σ2 hh by simp only [o_eql, h a_x (by simp [opsA]), h a_y (by simp [opsA])])
  | neq a_x a_y => exact (show o_neq a_x a_y σ1 hh = o_neq a_x a_y σ2 hh by simp only [o_neq, h a_x (by simp [opsA]), h a_y (by simp [opsA])])
  | eqb a_ne a_x a_y => exact (show o_eqb a_ne a_x a_y σ1 hh = o_eqb a_ne a_x a_y σ2 hh by simp only [o_eqb, h a_x (by simp [opsA]), h a_y (by simp [opsA])])
  | eqn a_k a_ne a_x a_y => exact (show o_eqn a_k a_ne a_x a_y σ1 hh = o_eqn a_k a_ne a_x a_y σ2 hh by simp only [o_eqn, h a_x (by simp [opsA]), h a_y (by simp [opsA])])
  | eqs a_ne a_s a_x a_y => exact (show o_eqs a_ne a_s a_x a_y σ1 hh = o_eqs a_ne a_s a_x a_y σ2 hh by simp only [o_eqs, h a_x (by simp [opsA]), h a_y (by simp [opsA])])
  | neg a_x => exact (show o_neg a_x σ1 hh = o_neg a_x σ2 hh by simp only [o_neg, h a_x (by simp [opsA])])
  | not a_x => exact (show o_not a_x σ1 hh = o_not a_x σ2 hh by simp only [o_not, h a_x (by simp [opsA])])
  | cvt a_k a_x => exact (show o_cvt a_k a_x σ1 hh = o_cvt a_k a_x σ2 hh by simp only [o_cvt, h a_x (by simp [opsA])])
  | mkm  => rfl
  | mks a_T a_sz a_bytes a_z a_x a_y => exact (show o_mks a_T a_sz a_bytes a_z a_x a_y σ1 hh = o_mks a_T a_sz a_bytes a_z a_x a_y σ2 hh by simp only [o_mks, h a_x (by simp [opsA]), h a_y (by simp [opsA])])
  | fad a_off a_x => exact (show o_fad a_off a_x σ1 hh = o_fad a_off a_x σ2 hh by simp only [o_fad, h a_x (by simp [opsA])])
  | fld a_off a_x => exact (show o_fld a_off a_x σ1 hh = o_fld a_off a_x σ2 hh by simp only [o_fld, h a_x (by simp [opsA])])
  | fldA a_off a_n a_x => exact (show o_fldA a_off a_n a_x σ1 hh = o_fldA a_off a_n a_x σ2 hh by simp only [o_fldA, h a_x (by simp [opsA])])
  | iad a_sz a_x a_y => exact (show o_iad a_sz a_x a_y σ1 hh = o_iad a_sz a_x a_y σ2 hh by simp only [o_iad, h a_x (by simp [opsA]), h a_y (by simp [opsA])])
  | iadA a_sz a_n a_x a_y => exact (show o_iadA a_sz a_n a_x a_y σ1 hh = o_iadA a_sz a_n a_x a_y σ2 hh by simp only [o_iadA, h a_x (by simp [opsA]), h a_y (by simp [opsA])])
  | ix a_n a_x a_y => exact (show o_ix a_n a_x a_y σ1 hh = o_ix a_n a_x a_y σ2 hh by simp only [o_ix, h a_x (by simp [opsA]), h a_y (by simp [opsA])])
  | ixA a_sz a_n a_x a_y => exact (show o_ixA a_sz a_n a_x a_y σ1 hh = o_ixA a_sz a_n a_x a_y σ2 hh by simp only [o_ixA, h a_x (by simp [opsA]), h a_y (by simp [opsA])])
  | lk a_two a_k a_ok a_z a_x a_y => exact (show o_lk a_two a_k a_ok a_z a_x a_y σ1 hh = o_lk a_two a_k a_ok a_z a_x a_y σ2 hh by simp only [o_lk, h a_x (by simp [opsA]), h a_y (by simp [opsA])])
  | mput a_two a_k a_x a_y a_z => exact (show o_mput a_two a_k a_x a_y a_z σ1 hh = o_mput a_two a_k a_x a_y a_z σ2 hh by simp only [o_mput, h a_x (by simp [opsA]), h a_y (by simp [opsA]), h a_z (by simp [opsA])])
  | mdel a_two a_k a_x a_y => exact (show o_mdel a_two a_k a_x a_y σ1 hh = o_mdel a_two a_k a_x a_y σ2 hh by simp only [o_mdel, h a_x (by simp [opsA]), h a_y (by simp [opsA])])
  | ext a_i a_x => exact (show o_ext a_i a_x σ1 hh = o_ext a_i a_x σ2 hh by simp only [o_ext, h a_x (by simp [opsA])])
  | len a_x => exact (show o_len a_x σ1 hh = o_len a_x σ2 hh by simp only [o_len, h a_x (by simp [opsA])])
  | lenM a_x => exact (show o_lenM a_x σ1 hh = o_lenM a_x σ2 hh by simp only [o_lenM, h a_x (by simp [opsA])])
  | cap a_x => exact (show o_cap a_x σ1 hh = o_cap a_x σ2 hh by simp only [o_cap, h a_x (by simp [opsA])])
  | app a_T a_sz a_bytes a_x a_y => exact (show o_app a_T a_sz a_bytes a_x a_y σ1 hh = o_app a_T a_sz a_bytes a_x a_y σ2 hh by simp only [o_app, h a_x (by simp [opsA]), h a_y (by simp [opsA])])
  | cpy a_sz a_x a_y => exact (show o_cpy a_sz a_x a_y σ1 hh = o_cpy a_sz a_x a_y σ2 hh by simp only [o_cpy, h a_x (by simp [opsA]), h a_y (by simp [opsA])])
  | clr a_z a_x => exact (show o_clr a_z a_x σ1 hh = o_clr a_z a_x σ2 hh by simp only [o_clr, h a_x (by simp [opsA])])
  | min a_x a_y => exact (show o_min a_x a_y σ1 hh = o_min a_x a_y σ2 hh by simp only [o_min, h a_x (by simp [opsA]), h a_y (by simp [opsA])])
  | max a_x a_y => exact (show o_max a_x a_y σ1 hh = o_max a_x a_y σ2 hh by simp only [o_max, h a_x (by simp [opsA]), h a_y (by simp [opsA])])
  | bad => rfl
  | and a_x a_y => exact (show o_and a_x a_y σ1 hh = o_and a_x a_y σ2 hh by simp only [o_and, h a_x (by simp [opsA]), h a_y (by simp [opsA])])
  | ixs a_l a_y => exact (show o_ixs a_l a_y σ1 hh = o_ixs a_l a_y σ2 hh by simp only [o_ixs, h a_y (by simp [opsA])])
  | apz a_T a_sz a_b a_z a_x a_y => exact (show o_apz a_T a_sz a_b a_z a_x a_y σ1 hh = o_apz a_T a_sz a_b a_z a_x a_y σ2 hh by simp only [o_apz, h a_x (by simp [opsA]), h a_y (by simp [opsA])])
  | shr a_x a_y => exact (show o_shr a_x a_y σ1 hh = o_shr a_x a_y σ2 hh by simp only [o_shr, h a_x (by simp [opsA]), h a_y (by simp [opsA])])

/-! ### A region by what is done -/
variable {r : Option Nat} {N : Nat} {Q : Post} {D : List Deferred} {l : List Oper}
theorem CK.anyRel {id : Nat} {σ : Env} {w : World} (hm : P.follows .mixedOrders = true) (hpr : ∀ i, i < l.length → ∀ j ∈ prI l i, j < i) (J : (Nat → Bool) → Env → World → Prop)
    (h0 : J (fun _ => false) σ { w with drawn := w.drawn + 1 })
    (step : ∀ S i σ w, i < l.length → S i = false → (∀ j ∈ prI l i, S j = true) → (∀ k, k < l.length → S k = true → ∀ j ∈ prI l k, S j = true) → (∀ k, S k = true → k < l.length) → J S σ w →
      ∃ o, l[i]? = some o ∧ (∀ d, o.dst = some d → d < N) ∧ Step1 P l o σ w fun v w' => J (fun k => k == i || S k) (put' σ o v) w')
    (fin : ∀ S σ w, (∀ i, i < l.length → S i = true) → J S σ w → Q D .normal σ w) : CK r N P (.region id l.toArray true) Q D σ w := by
  intro a ha
  refine wpIn_region_any hm ?_
  have prog : ∀ (listed : Array Bool), listed.size = l.length → Region.ready .any l.toArray listed = [] → ∀ i, i < l.length → listed.getD i false = true := by
    intro listed hsz hnil i
    induction i using Nat.strongRecOn with
    | _ i ih =>
      intro hi
      cases hb : listed.getD i false with
      | true => rfl
      | false =>
        have : i ∈ Region.ready .any l.toArray listed := (ready_spec hsz).2 ⟨hi, hb, fun j hj => ih j (hpr i hi j hj) (Nat.lt_trans (hpr i hi j hj) hi)⟩
        rw [hnil] at this; cases this
  have core : ∀ (fuel : Nat) (listed : Array Bool) (σ : Env) (a : Act) (w : World), listed.size = l.length → Rep N D a σ → (∀ k, k < l.length → listed.getD k false = true → ∀ j ∈ prI l k, listed.getD j false = true) →
      J (fun i => listed.getD i false) σ w → (listed.toList.filter (! ·)).length ≤ fuel → wpAnyIn (WF r) 0 P .any l.toArray (liftQ N Q) fuel listed a w := by
    intro fuel
    induction fuel with
    | zero =>
      intro listed σ a w hsz hr hdc hJ hf
      have hall : ∀ i, i < l.length → listed.getD i false = true := by
        intro i hi
        cases hb : listed.getD i false with
        | true => rfl
        | false => have := count_set listed i (by omega) hb; omega
      refine ⟨?_, σ, D, hr, fin _ σ w hall hJ⟩
      cases hr : Region.ready .any l.toArray listed with
      | nil => rfl
      | cons x xs =>
        have hx : x ∈ Region.ready .any l.toArray listed := by rw [hr]; simp
        obtain ⟨h1, h2, _⟩ := (ready_spec hsz).1 hx
        rw [hall x h1] at h2; cases h2
    | succ fuel ih =>
      intro listed σ a w hsz hr hdc hJ hf
      refine ⟨fun hnil => ⟨σ, D, hr, fin _ σ w (prog listed hsz hnil) hJ⟩, fun i hi => ?_⟩
      obtain ⟨hlt, hun, hpi⟩ := (ready_spec hsz).1 hi
      have hsz' : (listed.setIfInBounds i true).size = l.length := by simpa using hsz
      have hf' : ((listed.setIfInBounds i true).toList.filter (! ·)).length ≤ fuel := by have := count_set listed i (by omega) hun; omega
      have hS : ∀ k, listed.getD k false = true → k < l.length := by
        intro k hk
        rcases Nat.lt_or_ge k l.length with h | h
        · exact h
        · rw [Array.getD_eq_getD_getElem?, Array.getElem?_eq_none (by omega)] at hk; cases hk
      obtain ⟨o, ho, hN, hst⟩ := step _ i σ w hlt hun hpi hdc hS hJ
      refine wpOpIn_of ho hr hN hst ?_
      intro v w' a' hr' hJ'
      refine ih _ (KL.put' σ o v) a' w' hsz' hr' ?_ ?_ hf'
      · intro k hk hkl j hj
        rw [getD_set (by omega)] at hkl ⊢
        rcases hkl with rfl | hkl
        · exact .inr (hpi j hj)
        · exact .inr (hdc k hk hkl j hj)
      · have e : (fun k => (listed.setIfInBounds i true).getD k false) = fun k => k == i || listed.getD k false := by
          funext k
          rw [Bool.eq_iff_iff, getD_set (by omega), Bool.or_eq_true, beq_iff_eq]
        rw [e]
        exact hJ'
  have rep : ∀ k, (Array.replicate l.toArray.size false).getD k false = false := by
    intro k
    rw [Array.getD_eq_getD_getElem?, Array.getElem?_replicate]
    split <;> rfl
  refine core l.toArray.size (Array.replicate l.toArray.size false) σ a _ (by simp) ha ?_ ?_ ?_
  · intro k hk hkl
    rw [rep k] at hkl
    cases hkl
  · have e : (fun i => (Array.replicate l.toArray.size false).getD i false) = fun _ => false := by
      funext i
      rw [Array.getD_eq_getD_getElem?, Array.getElem?_replicate]
      split <;> rfl
    rw [e]
    exact h0
  · exact Nat.le_trans (List.length_filter_le _ _) (by simp)
end
end Go.KX
