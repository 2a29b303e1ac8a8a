/- Stores, append, copy, clear; maps. -/
import Derived.Test.YtjfffcjjlnmneaaGreatXH
import Derived.Lib.AppendZeros
namespace Go.KX
open Go.RowKit Go.KL
section
variable {C : Chk} {P : Program} {μ μ' : Mu} {w w' : World} {h h' : AH} {σ : Env} {σA : Tr AV} {t e : TypeId} {o : Oper}
/-- Cells are overwritten. -/
theorem setAt_ok {b : Pos} {off : Nat} {vs : List AV} {VS : List Value} {c : Cl} (hr : setAt h b off vs = some h') (S : Sim C P μ h w) (hv : RvL μ vs VS) (h1 : ∀ v ∈ VS, one v = true) (hc : μ b = some c) :
    ∃ w', (storeCells ⟨c.1, off, none⟩ VS).run P w = .ok () w' ∧ Sim C P μ h' w' ∧ Ext μ h.fl.nat w μ w' ∧ h'.fl = h.fl := by
  unfold setAt at hr
  split at hr
  · rename_i T l hB
    split at hr
    · rename_i l' hl
      obtain ⟨c', g1, vs0, g2, g3⟩ := S.at_ b _ hB
      rw [hc] at g1; cases g1
      obtain ⟨k1, k2⟩ := rvL_over hl g2 hv
      obtain ⟨w', q1, q2, q3, q4⟩ := run_storeCells (P := P) off VS 0 vs0 w g3 k1 h1
      obtain ⟨s1, s2, s3⟩ := S.put hr hB trivial hc q3 (B' := .cells T l') ⟨_, k2, q2⟩
      exact ⟨w', q1, s1, s2, s3⟩
    · cases hr
  · rename_i T sz l hB
    split at hr
    · rename_i l' hl
      obtain ⟨c', g1, vs0, g2, g3⟩ := S.at_ b _ hB
      rw [hc] at g1; cases g1
      obtain ⟨k1, k2⟩ := rvL_over hl g2 hv
      obtain ⟨cur, r1, r2, r3, r4, r5⟩ := RowAt.cells g3
      have hB' : Blk w c.1 T cur.toList := by unfold Blk; rw [r1]
      have hcl : vs0.length ≤ cur.toList.length := by rw [← r5]; simp; omega
      obtain ⟨w', q1, q2, q3, q4⟩ := run_storeCells (P := P) off VS 0 cur.toList w hB' (by omega) h1
      obtain ⟨s1, s2, s3⟩ := S.put hr hB trivial hc q3 (B' := .row T sz l') ⟨_, k2, .inr ⟨c.1, (setN cur.toList (off + 0) VS).toArray, rfl, q2, by rw [setN_length]; exact r2, r3, by simp [setN_length, r4], by
        rw [setN_length, Nat.add_zero]
        show (setN cur.toList off VS).take vs0.length = _
        rw [setN_take _ _ _ _ k1, r5]⟩⟩
      exact ⟨w', q1, s1, s2, s3⟩
    · cases hr
  · cases hr
noncomputable def c_st (P : Program) (n : Nat) (x y : AOd) : Op → Bool
  | .store t x' y' => szT P t n && (chkD x x' && chkD y y')
  | _ => false
theorem u_st {n : Nat} {x y : AOd} {op : Op} (hc : c_st P n x y op = true) : OkU C P op (o_st n x y) := by
  intro σA h v h' hr μ σ w hE S o ho
  unfold c_st at hc
  split at hc
  · rename_i t x' y'
    simp only [Bool.and_eq_true] at hc
    obtain ⟨c1, c2, c3⟩ := hc
    unfold o_st at hr
    split at hr
    · rename_i b off hb
      split at hr
      · rename_i hk
        simp only [Bool.and_eq_true] at hk
        split at hr
        · rename_i h1 hs
          cases hr
          have g := chkD_ok c2 hE; rw [hb] at g
          obtain ⟨c, g1, g2⟩ := g
          obtain ⟨VS, v1, v2⟩ := rv_cells (chkD_ok c3 hE)
          obtain ⟨w', q1, q2, q3, q4⟩ := setAt_ok hs S v1 (rvL_ones v1 hk.2) g1
          have hn := Nat.eq_of_beq_eq_true hk.1
          have hlen : VS.length = n := by rw [rvL_len v1, ← len_eq, hn]
          refine ⟨μ, w', q3, q2, rfl, q4, by rw [ho]; rfl, ?_⟩
          simp [execOp, ho, Instr.storeAt, g2, Instr.sureAddr, storeVar, v2, szT_ok c1, hlen, q1]
        · cases hr
      · cases hr
    · cases hr
  · cases hc
theorem slice_ok {sz m : Nat} {a : AV} {l : List AV} {y : Value} (hr : slice h sz a = some (m, l)) (S : Sim C P μ h w) (hy : Rv μ a y) :
    ∃ A c VS, y = .slice A m c ∧ RvL μ l VS ∧ VS.length = m * sz ∧ (m = 0 ∨ ∃ ad, A = some ad ∧ ∀ j u, VS[j]? = some u → w.cell? (ad.add j) = some u) := by
  have key : ∀ (b : Pos) (off m : Nat) (c : Cl) (l0 r : List AV), μ b = some c → cellsAt h b = some l0 → sub l0 off (m * sz) = some r → ∃ VS, RvL μ r VS ∧ VS.length = m * sz ∧ ∀ j u, VS[j]? = some u → w.cell? ((⟨c.1, off, none⟩ : Addr).add j) = some u := by
    intro b off m c l0 r hc hl hs
    obtain ⟨c', vs, h1, h2, h3⟩ := cellsAt_ok hl S
    rw [hc] at h1; cases h1
    obtain ⟨g1, g2⟩ := rvL_sub hs h2
    exact ⟨_, g1, by simp; omega, fun j u hu => by rw [add_off]; exact h3 w (Keep.refl w _) _ _ (sub_cells rfl j u hu)⟩
  unfold slice at hr
  split at hr
  · cases hr
    have hy : y = .slice none 0 0 := hy
    exact ⟨none, 0, [], hy, rfl, by simp, .inl rfl⟩
  · cases hr
    obtain ⟨d, _, q, rfl⟩ := hy
    exact ⟨_, _, [], rfl, rfl, by simp, .inl rfl⟩
  · split at hr
    · rename_i l0 hl
      split at hr
      · rename_i r hs
        cases hr
        obtain ⟨d, h1, _, rfl⟩ := hy
        obtain ⟨VS, v1, v2, v3⟩ := key _ _ _ _ _ _ h1 hl hs
        exact ⟨_, _, VS, rfl, v1, v2, .inr ⟨_, rfl, v3⟩⟩
      · cases hr
    · cases hr
  · split at hr
    · rename_i l0 hl
      split at hr
      · rename_i r hs
        cases hr
        obtain ⟨d, h1, _, rfl⟩ := hy
        obtain ⟨VS, v1, v2, v3⟩ := key _ _ _ _ _ _ h1 hl hs
        exact ⟨_, _, VS, rfl, v1, v2, .inr ⟨_, rfl, v3⟩⟩
      · cases hr
    · cases hr
  · cases hr
theorem run_append_zero {A A2 : Option Addr} {n c c2 ty : Nat} {inf : TypeInfo} (ht : P.underlying t = some (.slice e)) (hi : P.info? e = some inf) (hnc : n ≤ c) : (Builtin.append_ #[t, t] ty #[.slice A n c, .slice A2 0 c2]).run P w = .ok (.slice A n c) w := by
  have hs : ∀ w, (sizeOf e).run P w = .ok inf.size w := fun w => by simp [sizeOf, typeInfo, hi]
  cases A <;> cases A2 <;> simp [Builtin.append_, run_und ht, hs, Builtin.lenOf, Builtin.firstCells, hnc, storeCells, loadCells, loadCellsFrom]
/-- A new row. -/
theorem new_row {T sz c : Nat} {l : List AV} {cs : List Value} {cur : Array Value} (S : Sim C P μ h w) (K : Keep w w' Non) (hl : RvL μ l cs) (hn : w'.heap[w.heap.size]? = some (.cells cur T (0, 0))) (h1 : cs.length ≤ c * sz) (h2 : c ≤ maxLen) (h3 : cur.size = c * sz) (h4 : cur.toList.take cs.length = cs) :
    ∃ μ', Ext μ h.fl.nat w μ' w' ∧ Sim C P μ' (h.push (.row T sz l)) w' ∧ (h.push (.row T sz l)).fl = h.fl ∧ μ' h.nx = some ⟨w.heap.size, c, g0⟩ := by
  have hle := Mu.add_le (c := ⟨w.heap.size, c, g0⟩) (S.nx h.nx (Nat.le_refl _))
  obtain ⟨q1, q2, q3, q4⟩ := S.push (w' := w') (c := ⟨w.heap.size, c, g0⟩) (B := .row T sz l) K (Nat.le_refl _) (lt_of_some hn) ⟨cs, hl.mono hle, .inr ⟨_, cur, rfl, hn, h1, h2, h3, h4⟩⟩
  exact ⟨_, q2, q1, q3, q4⟩
noncomputable def c_app (P : Program) (T sz by_ : Nat) (x y : AOd) : Op → Bool
  | .call c => match c.callee with
    | .builtin b => (b == .append) && (match c.args.toList, c.argTypes.toList with
      | [x', y'], [t, t'] => Nat.beq t t' && (undT P t (fun d => match d with | .slice e => Nat.beq e T | _ => false) && (chkD x x' && (chkD y y' && (szT P T sz && (byT P T by_ && (match P.info? T with
        | some i => match i.zero with | some v => Nat.beq v.cells.size sz && (Nat.blt 0 sz && Nat.blt 0 by_) | none => false
        | none => false))))))
      | _, _ => false)
    | _ => false
  | _ => false
theorem c_app_ok {T sz by_ : Nat} {x y : AOd} {op : Op} (hc : c_app P T sz by_ x y op = true) :
    ∃ x' y' t i z, op = .call { callee := .builtin .append, args := #[x', y'], argTypes := #[t, t] } ∧ P.underlying t = some (.slice T) ∧ chkD x x' = true ∧ chkD y y' = true ∧ P.info? T = some i ∧ i.zero = some z ∧ i.size = sz ∧ i.bytes = by_ ∧ z.cells.size = sz ∧ 0 < sz ∧ 0 < by_ := by
  unfold c_app at hc
  split at hc
  · rename_i c
    obtain ⟨ce, args, tys⟩ := c
    simp only at hc
    split at hc
    · rename_i b
      simp only [Bool.and_eq_true, beq_iff_eq] at hc
      obtain ⟨rfl, h2⟩ := hc
      split at h2
      · rename_i x' y' t t' h3 h4
        simp only [Bool.and_eq_true] at h2
        obtain ⟨a1, a2, a3, a4, a5, a6, a7⟩ := h2
        have e := Nat.eq_of_beq_eq_true a1
        subst e
        obtain ⟨d, d1, d2⟩ := undT_ok a2
        split at d2 <;> first | (cases d2; done) | skip
        have e := Nat.eq_of_beq_eq_true d2
        subst e
        obtain ⟨i, i1, i2⟩ := szT_info a5
        obtain ⟨j, j1, j2⟩ := byT_info a6
        rw [i1] at j1; cases j1
        rw [i1] at a7
        simp only at a7
        split at a7
        · rename_i z hz
          simp only [Bool.and_eq_true, Nat.blt_eq] at a7
          refine ⟨x', y', t, i, z, ?_, d1, a3, a4, i1, hz, i2, j2, Nat.eq_of_beq_eq_true a7.1, a7.2.1, a7.2.2⟩
          congr 2
          · exact Array.ext' (by simpa using h3)
          · exact Array.ext' (by simpa using h4)
        · cases a7
      · cases h2
    · cases hc
  · cases hc
theorem one_eq (v : Value) (h1 : one v = true) : v.oneCell' = true := by cases v <;> first | rfl | cases h1
theorem e_app {T sz by_ : Nat} {x y : AOd} {op : Op} (hc : c_app P T sz by_ x y op = true) : OkE C P op (o_app T sz by_ x y) := by
  intro σA h v h' hr μ σ w hE S o ho
  obtain ⟨x', y', t, i, z, rfl, ht, c1, c2, hi, hz, i2, j2, hzs, hsz, hby⟩ := c_app_ok hc
  unfold o_app at hr
  split at hr
  · rename_i m news hs
    obtain ⟨hones, hr'⟩ := ifO_some hr
    clear hr; have hr := hr'; clear hr'
    obtain ⟨A2, cc2, NS, e2, n1, n2, n3⟩ := slice_ok hs S (chkD_ok c2 hE)
    have hx := chkD_ok c1 hE
    have h1 : ∀ u ∈ NS, u.oneCell' = true := fun u hu => one_eq u (rvL_ones n1 hones u hu)
    have fin : ∀ {μ' : Mu} {w' : World} {cv : Value}, Ext μ h.fl.nat w μ' w' → Sim C P μ' h' w' → Rv μ' v cv → h'.fl = h.fl → (Builtin.append_ #[t, t] o.type #[ev σ x', ev σ y']).run P w = .ok cv w' →
        ∃ μ' w' cv, Ext μ h.fl.nat w μ' w' ∧ Sim C P μ' h' w' ∧ Rv μ' v cv ∧ h'.fl = h.fl ∧ Runs P σ w o cv w' := fun a b c d f =>
      ⟨_, _, _, a, b, c, d, by rw [ho]; rfl, by simp [execOp, ho, resolve, invoke, builtin, f]⟩
    unfold app at hr
    split at hr
    · have zero : ∀ {A : Option Addr} {n c : Nat}, ev σ x' = .slice A n c → n ≤ c → Rv μ v (.slice A n c) → h' = h → ∃ μ' w' cv, Ext μ h.fl.nat w μ' w' ∧ Sim C P μ' h' w' ∧ Rv μ' v cv ∧ h'.fl = h.fl ∧ Runs P σ w o cv w' := by
        intro A n c hA hnc hv hh
        subst hh
        exact fin (Ext.refl μ _ w) S hv rfl (by rw [hA, e2]; exact run_append_zero ht hi hnc)
      split at hr <;> cases hr <;> rename_i hb <;> rw [hb] at hx
      · have g : ev σ x' = .slice none 0 0 := hx
        exact zero g (Nat.le_refl _) rfl rfl
      · obtain ⟨d, g1, g2, g3⟩ := hx
        exact zero g3 g2 ⟨d, g1, g2, rfl⟩ rfl
      · obtain ⟨d, g1, g2, g3⟩ := hx
        exact zero g3 (by omega) ⟨d, g1, g2, rfl⟩ rfl
    · rename_i m
      obtain ⟨ad, rfl, hcell⟩ : ∃ ad, A2 = some ad ∧ ∀ j u, NS[j]? = some u → w.cell? (ad.add j) = some u := by
        rcases n3 with h0 | h0
        · cases h0
        · exact h0
      have maxb : (140737488355328 : Nat) ≤ maxLen := by decide
      have lenb : ∀ n : Nat, n * by_ ≤ 140737488355328 → n ≤ 140737488355328 := fun n hn => Nat.le_trans (Nat.le_mul_of_pos_right _ hby) hn
      split at hr
      · rename_i hb
        rw [hb] at hx
        have hx : ev σ x' = .slice none 0 0 := hx
        obtain ⟨hble, hr'⟩ := ifO_some hr
        clear hr; have hr := hr'; clear hr'
        cases hr
        have hble := Nat.le_of_ble_eq_true hble
        obtain ⟨A', c', w', r1, r2, r3, r4⟩ := run_append_row (P := P) (w := w) (A := none) (c := 0) (n := 0) (cs := []) (ty := o.type) (c2 := cc2) ht hi hz i2 hzs hsz (.inl ⟨rfl, rfl, rfl⟩) (by simp) n2 (.inr ⟨ad, rfl, hcell⟩) h1 (by rw [j2, Nat.zero_add]; exact hble) (by omega)
        rcases r2 with ⟨_, _, q⟩ | ⟨b, cur, rfl, q1, q2, q3, q4, q5⟩
        · exfalso
          have : ([] ++ NS).length = 0 := by rw [q]; rfl
          rw [List.nil_append, n2] at this
          have := Nat.mul_pos (Nat.succ_pos m) hsz
          omega
        · have hb : w.heap.size ≤ b := by
            rcases r4 b rfl with q | q
            · cases q
            · exact q
          have K : Keep w w' Non := r3.weak fun i _ q => by cases q
          rw [List.nil_append] at q2 q5
          have hle := Mu.add_le (c := ⟨b, c', g0⟩) (S.nx h.nx (Nat.le_refl _))
          obtain ⟨s1, s2, s3, s4⟩ := S.push (w' := w') (c := ⟨b, c', g0⟩) (B := .row T sz news) K hb (lt_of_some q1) ⟨NS, n1.mono hle, .inr ⟨_, cur, rfl, q1, q2, q3, q4, q5⟩⟩
          refine fin s2 s1 ⟨_, s4, ?_, ?_⟩ s3 (by rw [hx, e2]; exact r1)
          · rw [n2] at q2
            have := Nat.le_of_mul_le_mul_right q2 hsz
            simpa using this
          · simp
      · rename_i b off n c hb
        rw [hb] at hx
        obtain ⟨d, g1, g2, g3⟩ := hx
        split at hr
        · rename_i hle
          have hle := Nat.le_of_ble_eq_true hle
          split at hr
          · rename_i h1' hset
            cases hr
            obtain ⟨w', q1, q2, q3, q4⟩ := setAt_ok hset S n1 (rvL_ones n1 hones) g1
            refine fin q3 q2 ⟨d, g1, hle, rfl⟩ q4 ?_
            rw [g3, e2]
            have hf := run_firstCells_some (P := P) w i.size (m + 1) ad (m + 1) cc2 NS (by rw [i2]; exact n2) hcell
            rw [i2] at hf
            simp [Builtin.append_, run_und ht, sizeOf, typeInfo, hi, Builtin.lenOf, hle, hf, add_off, i2, q1]
          · cases hr
        · rename_i hlt
          obtain ⟨hble, hr'⟩ := ifO_some hr
          clear hr; have hr := hr'; clear hr'
          have hble := Nat.le_of_ble_eq_true hble
          split at hr
          · rename_i nn olds hold
            cases hr
            have hgt : c < n + (m + 1) := by
              rcases Nat.lt_or_ge c (n + (m + 1)) with q | q
              · exact q
              · have q' : Nat.ble (n + (m + 1)) c = true := by rw [Nat.ble_eq]; exact q
                rw [q'] at hlt; cases hlt
            obtain ⟨A1, cc1, OS, k1, k2, k3, k4⟩ := slice_ok hold S (show Rv μ (.sl b off n c) _ from ⟨d, g1, g2, rfl⟩)
            cases k1
            have hlen := lenb _ hble
            have olds' : ∀ j v, OS[j]? = some v → w.cell? ((⟨d.1, off, none⟩ : Addr).add j) = some v := by
              rcases k4 with q | ⟨ad', q1, q2⟩
              · intro j v hv
                have hnil : OS = [] := List.eq_nil_of_length_eq_zero (by rw [k3, q]; simp)
                rw [hnil] at hv
                simp at hv
              · cases q1; exact q2
            have hr := run_append_grow (P := P) w t o.type T i z ht hi hz ⟨d.1, off, none⟩ n c OS (by rw [i2]; exact k3) olds' ad (m + 1) cc2 NS (by rw [i2]; exact n2) hcell hgt (by omega) (growslice_fits hgt (by rw [j2]; exact hble))
            have hge := grownCap_ge w (n + (m + 1)) c T
            have hcm : grownCap w (n + (m + 1)) c T ≤ maxLen := grownCap_le_maxLen w (n + (m + 1)) c T (by omega)
            have hlen2 : (OS ++ NS).length = (n + (m + 1)) * sz := by rw [List.length_append, k3, n2, Nat.add_mul]
            obtain ⟨μ', s1, s2, s3, s4⟩ := new_row (T := T) (sz := sz) (c := grownCap w (n + (m + 1)) c T) (w' := w.drew.alloc (.cells (OS.toArray ++ NS.toArray ++ Builtin.zeroCells z.cells (grownCap w (n + (m + 1)) c T - (n + (m + 1)))) T)) (cur := OS.toArray ++ NS.toArray ++ Builtin.zeroCells z.cells (grownCap w (n + (m + 1)) c T - (n + (m + 1)))) S
              ((Keep.drew w).non (alloc_keep w.drew _)) (rvL_app k2 n1) (heap_alloc_new w.drew _) (by rw [hlen2]; exact Nat.mul_le_mul_right _ hge) hcm
              (by
                simp only [Array.size_append, List.size_toArray, size_zeroCells, hzs, k3, n2, ← Nat.add_mul]
                congr 1
                omega)
              (by simp only [Array.toList_append, List.append_assoc]; rw [← List.append_assoc]; exact List.take_left)
            refine fin s1 s2 ⟨_, s4, ?_, ?_⟩ s3 (by rw [g3, e2]; exact hr)
            · simpa using hge
            · simp
          · cases hr
      · rename_i b eo co n hb
        rw [hb] at hx
        obtain ⟨d, g1, g2, g3⟩ := hx
        split at hr
        · rename_i T' sz' l hB
          split at hr
          · rename_i hin
            simp only [Bool.and_eq_true] at hin
            obtain ⟨p1, p2, p3, p4⟩ := hin
            have p1 := Nat.le_of_ble_eq_true p1
            have p2 := Nat.eq_of_beq_eq_true p2
            have p3 := Nat.eq_of_beq_eq_true p3
            have p4 := Nat.eq_of_beq_eq_true p4
            subst p2 p3 p4
            split at hr
            · rename_i h1' hset
              cases hr
              obtain ⟨d', k1, OS, k2, k3⟩ := S.at_ b _ hB
              rw [g1] at k1; cases k1
              obtain ⟨cur, r1, r2, _⟩ := RowAt.cells k3
              have hle : n + (m + 1) ≤ d.2 := by
                rw [len_eq, ← rvL_len k2] at p1
                exact Nat.le_of_mul_le_mul_right (Nat.le_trans p1 r2) hsz
              obtain ⟨w', q1, q2, q3, q4⟩ := setAt_ok hset S n1 (rvL_ones n1 hones) g1
              refine fin q3 q2 ⟨d, g1, by omega, rfl⟩ q4 ?_
              rw [g3, e2]
              have hf := run_firstCells_some (P := P) w i.size (m + 1) ad (m + 1) cc2 NS (by rw [i2]; exact n2) hcell
              rw [i2] at hf
              simp [Builtin.append_, run_und ht, sizeOf, typeInfo, hi, Builtin.lenOf, hle, hf, add_off, i2, q1]
            · cases hr
          obtain ⟨hcond, hr'⟩ := ifO_some hr
          clear hr; have hr := hr'; clear hr'
          simp only [Bool.and_eq_true] at hcond
          obtain ⟨⟨⟨⟨⟨q1, q2⟩, q3⟩, q4⟩, q5⟩, q6⟩ := hcond
          have q1 := Nat.eq_of_beq_eq_true q1
          have q2 := Nat.eq_of_beq_eq_true q2
          have q3 := Nat.eq_of_beq_eq_true q3
          have q4 := Nat.eq_of_beq_eq_true q4
          have q5 := Nat.eq_of_beq_eq_true q5
          have hble := Nat.le_of_ble_eq_true q6
          subst q1 q2 q3 q4
          split at hr
          · rename_i h1' hput
            cases hr
            obtain ⟨d', k1, OS, k2, k3⟩ := S.at_ b _ hB
            rw [g1] at k1; cases k1
            have hol : OS.length = n * sz := by rw [rvL_len k2, ← len_eq, ← q5]
            obtain ⟨A', c', w', r1, r2, r3, r4⟩ := run_append_row (P := P) (w := w) (A := some ⟨d.1, 0, none⟩) (c := d.2) (n := n) (cs := OS) (ty := o.type) (c2 := cc2) ht hi hz i2 hzs hsz k3 hol n2 (.inr ⟨ad, rfl, hcell⟩) h1 (by rw [j2]; exact hble) (by omega)
            rcases r2 with ⟨_, _, q⟩ | ⟨b', cur, rfl, p1, p2, p3, p4, p5⟩
            · exfalso
              have : (OS ++ NS).length = 0 := by rw [q]; rfl
              rw [List.length_append, n2] at this
              have := Nat.mul_pos (Nat.succ_pos m) hsz
              omega
            · have hb' : b' = d.1 ∨ w.heap.size ≤ b' := by
                rcases r4 b' rfl with q | q
                · cases q; exact .inl rfl
                · exact .inr q
              have K : Keep w w' (· = d.1) := r3.weak fun i _ q => by cases q; rfl
              have hle := Mu.add_le (c := ⟨b', c', g0⟩) (S.nx h.nx (Nat.le_refl _))
              have hnx : h.nx = h.nx := rfl
              obtain ⟨s1, s2, s3, s4⟩ := S.move (w' := w') (d := ⟨b', c', g0⟩) (B' := .row T sz (l ++ news)) hput hB trivial g1 K hb' (lt_of_some p1) ⟨OS ++ NS, (rvL_app k2 n1).mono hle, .inr ⟨_, cur, rfl, p1, p2, p3, p4, p5⟩⟩
              refine fin s2 s1 ⟨_, s4, ?_, ?_⟩ s3 (by rw [g3, e2]; simpa using r1)
              · rw [List.length_append, hol, n2, ← Nat.add_mul] at p2
                have := Nat.le_of_mul_le_mul_right p2 hsz
                simpa using this
              · simp
          · cases hr
        · cases hr
      · cases hr
  · cases hr
noncomputable def c_cpy (P : Program) (sz : Nat) (x y : AOd) : Op → Bool
  | .call c => match c.callee with
    | .builtin b => (b == .copy) && (match c.args.toList, c.argTypes.toList with
      | [x', y'], t :: _ => undT P t (fun d => match d with | .slice e => szT P e sz | _ => false) && (chkD x x' && chkD y y')
      | _, _ => false)
    | _ => false
  | _ => false
theorem e_cpy {sz : Nat} {x y : AOd} {op : Op} (hc : c_cpy P sz x y op = true) : OkE C P op (o_cpy sz x y) := by
  intro σA h v h' hr μ σ w hE S o ho
  unfold c_cpy at hc
  split at hc
  · rename_i c
    obtain ⟨ce, args, tys⟩ := c
    simp only at hc
    split at hc
    · rename_i b
      simp only [Bool.and_eq_true, beq_iff_eq] at hc
      obtain ⟨rfl, h2⟩ := hc
      split at h2
      · rename_i x' y' t ts h3 h4
        simp only [Bool.and_eq_true] at h2
        obtain ⟨a1, a2, a3⟩ := h2
        obtain ⟨d, d1, d2⟩ := undT_ok a1
        split at d2 <;> first | (cases d2; done) | skip
        rename_i e
        have ea : args = #[x', y'] := Array.ext' (by simpa using h3)
        have et : tys[0]? = some t := by rw [← Array.getElem?_toList, h4]; rfl
        unfold o_cpy at hr
        split at hr
        · rename_i b off n cc m news hx hs
          split at hr
          · rename_i vs hsub
            obtain ⟨hones, hr'⟩ := ifO_some hr
            clear hr; have hr := hr'; clear hr'
            split at hr
            · rename_i h1' hset
              cases hr
              have g := chkD_ok a2 hE; rw [hx] at g
              obtain ⟨c0, g1, _, g3⟩ := g
              obtain ⟨A2, cc2, NS, e2, n1, n2, n3⟩ := slice_ok hs S (chkD_ok a3 hE)
              generalize hk : (if Nat.ble m n = true then m else n) = k at hsub ⊢
              have hmin : Nat.min m n = k := by
                rw [← hk]
                by_cases q : m ≤ n
                · rw [if_pos (by rw [Nat.ble_eq]; exact q)]; exact Nat.min_eq_left q
                · rw [if_neg (by rw [Nat.ble_eq]; exact q)]; exact Nat.min_eq_right (by omega)
              obtain ⟨k1, k2⟩ := rvL_sub hsub n1
              rw [List.drop_zero] at k1
              obtain ⟨w', q1, q2, q3, q4⟩ := setAt_ok hset S k1 (rvL_ones k1 hones) g1
              refine ⟨μ, w', _, q3, q2, rfl, q4, by rw [ho]; rfl, ?_⟩
              have hf : ∀ (w1 : World), w1 = w → (Builtin.firstCells sz k (.slice A2 m cc2)).run P w1 = .ok (NS.take (k * sz)).toArray w1 := by
                intro w1 hw1
                subst hw1
                cases A2 with
                | none =>
                  have hm : m = 0 := by
                    rcases n3 with q | ⟨_, q, _⟩
                    · exact q
                    · cases q
                  have hN : NS = [] := List.eq_nil_of_length_eq_zero (by rw [n2, hm]; simp)
                  subst hN
                  simp [Builtin.firstCells]
                | some ad =>
                  have hcell : ∀ j u, (NS.take (k * sz))[j]? = some u → w1.cell? (ad.add j) = some u := by
                    intro j u hu
                    rw [List.getElem?_take] at hu
                    split at hu
                    · rcases n3 with q | ⟨ad', q, q'⟩
                      · have hN : NS = [] := List.eq_nil_of_length_eq_zero (by rw [n2, q]; simp)
                        subst hN; simp at hu
                      · cases q; exact q' j u hu
                    · cases hu
                  exact run_firstCells_some (P := P) w1 sz k ad m cc2 (NS.take (k * sz)) (by rw [List.length_take]; omega) hcell
              have hs2 := szT_ok d2
              simp [execOp, ho, ea, et, resolve, invoke, builtin, Builtin.copy_, run_und d1, g3, e2, Builtin.lenOf, hmin, hs2, hf w rfl, q1, goInt, Result.andThen]
            · cases hr
          · cases hr
        · cases hr
      · cases h2
    · cases hc
  · cases hc
noncomputable def c_clr (P : Program) (z : List AV) (x : AOd) : Op → Bool
  | .call c => match c.callee with
    | .builtin b => (b == .clear) && (match c.args.toList, c.argTypes.toList with
      | [x'], [t] => undT P t (fun d => match d with | .slice e => zT P e z | _ => false) && chkD x x'
      | _, _ => false)
    | _ => false
  | _ => false
theorem zeroCells_list {zc : Array Value} (c : Nat) : (Builtin.zeroCells zc c).toList = (List.replicate c zc.toList).flatten := by
  have := range_cells (zc := zc) (n := 0) c
  simp only [or_false] at this
  exact this
noncomputable def c_apz (P : Program) (T sz by_ : Nat) (z : List AV) (x y : AOd) : Op → Bool
  | .call c => match c.callee with
    | .builtin b => (b == .append) && (match c.args.toList, c.argTypes.toList with
      | [x', y'], [t, t'] => undT P t (fun d => match d with | .slice e => Nat.beq e T | _ => false) && (undT P t' (fun d => match d with | .int _ => true | _ => false) && (chkD x x' && (chkD y y' && (szT P T sz && (byT P T by_ && (zT P T z && (Nat.beq (len z) sz && (Nat.blt 0 sz && Nat.blt 0 by_))))))))
      | _, _ => false)
    | _ => false
  | _ => false
theorem e_apz {T sz by_ : Nat} {z : List AV} {x y : AOd} {op : Op} (hc : c_apz P T sz by_ z x y op = true) : OkE C P op (o_apz T sz by_ z x y) := by
  intro σA h v h' hr μ σ w hE S o ho
  unfold c_apz at hc
  split at hc <;> first | (cases hc; done) | skip
  rename_i c
  obtain ⟨ce, args, tys⟩ := c
  simp only at hc
  split at hc <;> first | (cases hc; done) | skip
  rename_i b
  simp only [Bool.and_eq_true, beq_iff_eq] at hc
  obtain ⟨rfl, h2⟩ := hc
  split at h2 <;> first | (cases h2; done) | skip
  rename_i x' y' t t' h3 h4
  simp only [Bool.and_eq_true] at h2
  obtain ⟨a1, a2, a3, a4, a5, a6, a7, a8, a9, a10⟩ := h2
  have hargs : args = #[x', y'] := Array.ext' (by simpa using h3)
  have htys : tys = #[t, t'] := Array.ext' (by simpa using h4)
  subst hargs htys
  obtain ⟨d, d1, d2⟩ := undT_ok a1
  split at d2 <;> first | (cases d2; done) | skip
  have e := Nat.eq_of_beq_eq_true d2
  subst e
  rename_i e
  obtain ⟨dn, n1, n2⟩ := undT_ok a2
  split at n2 <;> first | (cases n2; done) | skip
  rename_i kn
  obtain ⟨i, i1, i2⟩ := szT_info a5
  obtain ⟨i', j1, j2⟩ := byT_info a6
  obtain ⟨i'', zv, k1, k2, k3⟩ := zT_info a7
  rw [i1] at j1 k1; cases j1; cases k1
  have hz := Nat.eq_of_beq_eq_true a8
  have hsz : 0 < sz := by simpa [Nat.blt_eq] using a9
  have hx := chkD_ok a3 hE
  have hy := chkD_ok a4 hE
  have fin : ∀ {μ' : Mu} {w' : World} {cv : Value}, Ext μ h.fl.nat w μ' w' → Sim C P μ' h' w' → Rv μ' v cv → h'.fl = h.fl → (Builtin.append_ #[t, t'] o.type #[ev σ x', ev σ y']).run P w = .ok cv w' →
      ∃ μ' w' cv, Ext μ h.fl.nat w μ' w' ∧ Sim C P μ' h' w' ∧ Rv μ' v cv ∧ h'.fl = h.fl ∧ Runs P σ w o cv w' := fun a b c d f =>
    ⟨_, _, _, a, b, c, d, by rw [ho]; rfl, by simp [execOp, ho, resolve, invoke, builtin, f]⟩
  have zlen : zv.cells.size = sz := by rw [← hz, len_eq, ← rvL_len (k3 μ)]; simp
  unfold o_apz at hr
  split at hr
  · rename_i nn hxs hn
    rw [hxs] at hx
    rw [natOf_some hn] at hy
    have hx : ev σ x' = .slice none 0 0 := hx
    have hy : ev σ y' = .int .i64 (nn : Int) := hy
    cases nn with
    | zero =>
      cases hr
      refine fin (Ext.refl μ _ w) S rfl rfl ?_
      rw [hx, hy]
      simp [Builtin.append_, run_underlying d1, run_underlying n1, sizeOf, typeInfo, i1, asInt, asIntOf, IntKind.wrap_i64]
    | succ m =>
      obtain ⟨hble, hr⟩ := ifO_some hr
      have hble := Nat.le_of_ble_eq_true hble
      cases hr
      have hby : 0 < by_ := by simpa [Nat.blt_eq] using a10
      have hnb : m + 1 ≤ 140737488355328 := Nat.le_trans (Nat.le_mul_of_pos_right _ hby) hble
      have hrun := Go.Lib.run_append_nil_zeros (P := P) w t t' o.type e i zv .i64 kn d1 n1 i1 k2 (m + 1) (by omega) (by rw [i2]; exact hsz) (by omega) (by rw [j2]; omega)
      have hge := grownCap_ge w (m + 1) 0 e
      have maxb : (140737488355328 : Nat) ≤ maxLen := by decide
      have hcm : grownCap w (m + 1) 0 e ≤ maxLen := grownCap_le_maxLen w (m + 1) 0 e (by omega)
      have hcs : ((List.replicate (m + 1) zv.cells.toList).flatten).length = (m + 1) * sz := by rw [← zeroCells_list]; simp [size_zeroCells, zlen]
      obtain ⟨μ', s1, s2, s3, s4⟩ := new_row (T := e) (sz := sz) (c := grownCap w (m + 1) 0 e) (w' := w.drew.alloc (.cells (Builtin.zeroCells zv.cells (m + 1) ++ Builtin.zeroCells zv.cells (grownCap w (m + 1) 0 e - (m + 1))) e)) (cur := Builtin.zeroCells zv.cells (m + 1) ++ Builtin.zeroCells zv.cells (grownCap w (m + 1) 0 e - (m + 1))) S
        ((Keep.drew w).non (alloc_keep w.drew _)) (rvL_rep (k3 μ) (m + 1)) (heap_alloc_new w.drew _) (by rw [hcs]; exact Nat.mul_le_mul_right _ hge) hcm
        (by
          simp only [Array.size_append, size_zeroCells, zlen, ← Nat.add_mul]
          congr 1
          omega)
        (by
          rw [Array.toList_append, zeroCells_list]
          exact List.take_left)
      refine fin s1 s2 ⟨_, s4, ?_, ?_⟩ s3 (by rw [hx, hy]; exact hrun)
      · simpa using hge
      · simp
  · cases hr
theorem e_clr {z : List AV} {x : AOd} {op : Op} (hc : c_clr P z x op = true) : OkE C P op (o_clr z x) := by
  intro σA h v h' hr μ σ w hE S o ho
  unfold c_clr at hc
  split at hc
  · rename_i c
    obtain ⟨ce, args, tys⟩ := c
    simp only at hc
    split at hc
    · rename_i b
      simp only [Bool.and_eq_true, beq_iff_eq] at hc
      obtain ⟨rfl, h2⟩ := hc
      split at h2
      · rename_i x' t h3 h4
        simp only [Bool.and_eq_true] at h2
        obtain ⟨a1, a2⟩ := h2
        obtain ⟨d, d1, d2⟩ := undT_ok a1
        split at d2 <;> first | (cases d2; done) | skip
        rename_i e
        have ea : args = #[x'] := Array.ext' (by simpa using h3)
        have et : tys = #[t] := Array.ext' (by simpa using h4)
        subst ea et
        have hx := chkD_ok a2 hE
        obtain ⟨i, zv, z1, z2, z3⟩ := zT_info d2
        have zero : ∀ {A : Option Addr} {c : Nat}, ev σ x' = .slice A 0 c → v = u → h' = h → ∃ μ' w' cv, Ext μ h.fl.nat w μ' w' ∧ Sim C P μ' h' w' ∧ Rv μ' v cv ∧ h'.fl = h.fl ∧ Runs P σ w o cv w' := by
          intro A c hA hv hh
          subst hv hh
          refine ⟨μ, w, undef, Ext.refl μ _ w, S, rv_u μ, rfl, by rw [ho]; rfl, ?_⟩
          cases A <;> simp [execOp, ho, resolve, invoke, builtin, Builtin.clear_, hA, run_und d1, undef]
        have full : ∀ {b : Pos} {c : Cl} {off n cap : Nat}, μ b = some c → ev σ x' = .slice (some ⟨c.1, off, none⟩) n cap → clr h z b off n = some (v, h') → ∃ μ' w' cv, Ext μ h.fl.nat w μ' w' ∧ Sim C P μ' h' w' ∧ Rv μ' v cv ∧ h'.fl = h.fl ∧ Runs P σ w o cv w' := by
          intro b c off n cap hb hA hr
          unfold clr at hr
          split at hr
          · cases hr; exact zero hA rfl rfl
          · rename_i n
            obtain ⟨hones, hr'⟩ := ifO_some hr
            split at hr'
            · rename_i h1' hset
              cases hr'
              have k1 := rvL_rep (z3 μ) (n + 1)
              have k2 : ∀ v ∈ (List.replicate (n + 1) zv.cells.toList).flatten, one v = true := by
                intro v hv
                simp only [List.mem_flatten, List.mem_replicate] at hv
                obtain ⟨l, ⟨_, rfl⟩, hv⟩ := hv
                exact rvL_ones (z3 μ) hones v hv
              obtain ⟨w', q1, q2, q3, q4⟩ := setAt_ok hset S k1 k2 hb
              refine ⟨μ, w', undef, q3, q2, rv_u μ, q4, by rw [ho]; rfl, ?_⟩
              rw [← zeroCells_list] at q1
              simp [execOp, ho, resolve, invoke, builtin, Builtin.clear_, hA, run_und d1, run_zero z1 z2, q1, undef, Result.andThen]
            · cases hr'
        unfold o_clr at hr
        split at hr
        · rename_i hb; rw [hb] at hx; obtain ⟨c, g1, _, g3⟩ := hx; exact full g1 g3 hr
        · rename_i hb; rw [hb] at hx; obtain ⟨c, g1, _, g3⟩ := hx; exact full g1 g3 hr
        · rename_i hb; rw [hb] at hx; cases hr; obtain ⟨c, g1, q, g3⟩ := hx; exact zero g3 rfl rfl
        · rename_i hb; rw [hb] at hx; cases hr; have hx : ev σ x' = .slice none 0 0 := hx; exact zero hx rfl rfl
        · cases hr
      · cases h2
    · cases hc
  · cases hc
end
end Go.KX
