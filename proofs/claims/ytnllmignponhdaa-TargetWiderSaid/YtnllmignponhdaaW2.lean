/- Walks, printed by a program: each function does what its model says. -/
import Derived.Test.YtnllmignponhdaaEnc
import Derived.Test.YtnllmignponhdaaW0
import Derived.Test.YtnllmignponhdaaW1
namespace Go.Proofs.Ytnllmignponhdaa
open Go.KL
set_option maxHeartbeats 4000000 in
theorem w_target_distances (p0 : Int) (p1 : List T_target_link) (pA1 : Option Addr) (pc1 : Nat) (w : World) (φ : PHeap) (hS : St ⟨w, [], φ⟩ φ [] w) (ha0 : SlR φ rl189 pA1 pc1 p1) {r : (Arr Int 81) × Bool} (hm : m_target_distances p0 p1 = some r) : Gv Try.prog 76 [.int .i64 p0, .slice pA1 p1.length pc1] w (RetS w [] φ (fun φ_ L_ v => v = .tuple #[.agg (List.flatMap encI r.1.l).toArray, .bool r.2] ∧ L_ = [])) := by
  unfold m_target_distances at hm
  refine Gv.of Try.func76 rfl Try.ntmps76 Try.results76 rfl ?_
  refine CK.seq ?_
  refine CK.reg (ks := []) (.fx 0 (.fl 1 (.nil)) .stop) rfl ?_
  refine OKS.alloc (cs := List.flatMap encI (Arr.fill 81 0).l) rfl rfl rfl rfl rfl Try.zeroValue136 rfl hS ?_
  intro W1 b2 hS3
  have hS5 : St ⟨w, [], φ⟩ φ [.blk b2 136 (List.flatMap encI (Arr.fill 81 0).l)] W1 := hS3
  refine OKS.r rfl rfl rfl rfl (fun _ => Runs.as rfl rfl) ?_
  refine OKS.e ?_
  refine thenQ_n ?_
  refine CK.seq ?_
  refine CK.reg (ks := []) (.fx 0 (.nil) .stop) rfl ?_
  refine OKS.alloc (cs := List.flatMap encI (Arr.fill 81 0).l) rfl rfl rfl rfl rfl Try.zeroValue136 rfl hS5 ?_
  intro W6 b7 hS8
  have hS10 : St ⟨w, [], φ⟩ φ [.blk b7 136 (List.flatMap encI (Arr.fill 81 0).l), .blk b2 136 (List.flatMap encI (Arr.fill 81 0).l)] W6 := hS8
  refine OKS.e ?_
  refine thenQ_n ?_
  refine CK.seq ?_
  refine CK.seq ?_
  refine CK.reg (ks := []) (.fl 0 (.nil)) rfl ?_
  refine OKS.r rfl rfl rfl rfl (fun _ => Runs.mv rfl rfl) ?_
  refine OKS.e ?_
  refine thenQ_n ?_
  refine CK.block ?_
  obtain ⟨y22, hf19, hm18⟩ := bnd hm
  obtain ⟨hle20, hf21⟩ := forR'_le hf19
  replace hle20 := Hid.mk hle20
  refine CK.forN' (fun k17 a16 σ_ w_ => ∃ (φ_ : PHeap), σ_ 15 = .int .i64 (↑k17 : Int) ∧ σ_ 0 = .int .i64 p0 ∧ σ_ 1 = .slice pA1 p1.length pc1 ∧ σ_ 4 = .pointer (some ⟨b2, 0, none⟩) ∧ σ_ 6 = .pointer (some ⟨b7, 0, none⟩) ∧ PHeap.Le φ φ_ ∧ St ⟨w, [], φ⟩ φ_ [.blk b7 136 (List.flatMap encI a16.l), .blk b2 136 (List.flatMap encI (Arr.fill 81 0).l)] w_) hf21 ?_ ?_ ?_
  · exact ⟨φ, rfl, rfl, rfl, rfl, rfl, (PHeap.Le.refl _), hS10⟩
  · rintro k17 a16 xx25 σ23 W24 hk28 ⟨φ30, fi29, f33, f34, f35, f36, le31, hS32⟩ hx26
    have c37 : Hid ((↑k17 : Int) < 9) := Hid.mk (lp_lt0 hk28)
    replace hk28 := Hid.mk hk28
    have hi38 : Hid (w64 ((↑k17 : Int) + 1) = (↑(k17 + 1) : Int)) := Hid.mk (by have h1 := hle20.out; have h2 := c37.out; rw [w64_in] <;> omega)
    refine CK.seq ?_
    refine CK.reg (ks := []) (.fl 0 (.nil)) rfl ?_
    refine OKS.r rfl rfl rfl rfl (fun _ => Runs.lss rfl fi29 rfl) ?_
    refine OKS.e ?_
    refine thenQ_n ?_
    refine CK.seq ?_
    refine CK.condT (decT c37.out) ?_
    refine CK.skip ?_
    refine thenQ_n ?_
    refine CK.seq ?_
    refine CK.block ?_
    refine CK.seq ?_
    refine CK.reg (ks := []) (.fl 0 (.fl 1 (.nil))) rfl ?_
    refine OKS.r rfl rfl rfl rfl (fun _ => Runs.mv rfl fi29) ?_
    refine OKS.r rfl rfl rfl rfl (fun _ => Runs.as rfl rfl) ?_
    refine OKS.e ?_
    refine thenQ_n ?_
    refine CK.seq ?_
    refine CK.reg (ks := []) (.fl 0 (.nil)) rfl ?_
    refine OKS.r rfl rfl rfl rfl (fun _ => Runs.mv rfl rfl) ?_
    refine OKS.e ?_
    refine thenQ_n ?_
    refine CK.block ?_
    obtain ⟨y50, hf47, hm46⟩ := bnd hx26
    obtain ⟨hle48, hf49⟩ := forR'_le hf47
    replace hle48 := Hid.mk hle48
    refine CK.forN' (fun k45 a44 σ_ w_ => ∃ (φ_ : PHeap), σ_ 18 = .int .i64 (↑k45 : Int) ∧ σ_ 0 = .int .i64 p0 ∧ σ_ 1 = .slice pA1 p1.length pc1 ∧ σ_ 4 = .pointer (some ⟨b2, 0, none⟩) ∧ σ_ 6 = .pointer (some ⟨b7, 0, none⟩) ∧ σ_ 7 = .int .i64 (↑k17 : Int) ∧ σ_ 15 = .int .i64 (↑k17 : Int) ∧ PHeap.Le φ30 φ_ ∧ St ⟨w, [], φ⟩ φ_ [.blk b7 136 (List.flatMap encI a44.l), .blk b2 136 (List.flatMap encI (Arr.fill 81 0).l)] w_) hf49 ?_ ?_ ?_
    · exact ⟨φ30, rfl, f33, f34, f35, f36, rfl, fi29, (PHeap.Le.refl _), hS32⟩
    · rintro k45 a44 xx53 σ51 W52 hk56 ⟨φ58, fi57, f61, f62, f63, f64, f65, f66, le59, hS60⟩ hx54
      have c67 : Hid ((↑k45 : Int) < 9) := Hid.mk (lp_lt0 hk56)
      replace hk56 := Hid.mk hk56
      have hi68 : Hid (w64 ((↑k45 : Int) + 1) = (↑(k45 + 1) : Int)) := Hid.mk (by have h1 := hle48.out; have h2 := c67.out; rw [w64_in] <;> omega)
      refine CK.seq ?_
      refine CK.reg (ks := []) (.fl 0 (.nil)) rfl ?_
      refine OKS.r rfl rfl rfl rfl (fun _ => Runs.lss rfl fi57 rfl) ?_
      refine OKS.e ?_
      refine thenQ_n ?_
      refine CK.seq ?_
      refine CK.condT (decT c67.out) ?_
      refine CK.skip ?_
      refine thenQ_n ?_
      refine CK.seq ?_
      refine CK.block ?_
      refine CK.seq ?_
      refine CK.reg (ks := []) (.fl 0 (.fl 1 (.nil))) rfl ?_
      refine OKS.r rfl rfl rfl rfl (fun _ => Runs.mv rfl fi57) ?_
      refine OKS.r rfl rfl rfl rfl (fun _ => Runs.as rfl rfl) ?_
      refine OKS.e ?_
      refine thenQ_n ?_
      refine CK.seq ?_
      refine CK.reg (ks := []) (.fl 0 (.fl 1 (.fl 2 (.nil)))) rfl ?_
      refine OKS.r rfl rfl rfl rfl (fun _ => Runs.mv rfl f65) ?_
      refine OKS.r rfl rfl rfl rfl (fun _ => Runs.mv rfl rfl) ?_
      refine OKS.r rfl rfl rfl rfl (fun _ => Runs.neq rfl rfl rfl) ?_
      refine OKS.e ?_
      refine thenQ_n ?_
      by_cases c69 : (↑k17 : Int) = (↑k45 : Int)
      · have hm70 := hx54; rw [if_pos c69] at hm70; replace c69 := Hid.mk c69
        refine CK.condF (decF (fun h => h c69.out)) ?_
        refine CK.skip ?_
        refine blockQ_n ?_
        refine thenQ_n ?_
        refine CK.reg (ks := []) (.fl 0 (.fl 1 (.nil))) rfl ?_
        refine OKS.r rfl rfl rfl rfl (fun _ => Runs.to (Runs.addw rfl fi57 rfl) (congrArg (Value.int .i64) hi68.out)) ?_
        refine OKS.r rfl rfl rfl rfl (fun _ => Runs.mv rfl rfl) ?_
        refine OKS.e ?_
        cases hm70
        exact thenQ_n ⟨rfl, ⟨φ58, rfl, f61, f62, f63, f64, f65, f66, le59, hS60⟩⟩
      · have hm72 := hx54; rw [if_neg c69] at hm72; replace c69 := Hid.mk c69
        refine CK.condT (decT c69.out) ?_
        refine CK.reg (ks := []) (.fl 0 (.fl 1 (.fl 2 (.fl 3 (.fx 4 (.nil) .stop))))) rfl ?_
        refine OKS.r rfl rfl rfl rfl (fun _ => Runs.mv rfl f65) ?_
        refine OKS.r rfl rfl rfl rfl (fun _ => Runs.mv rfl rfl) ?_
        obtain ⟨_, h73, hm74⟩ := bnd hm72
        refine OKS.r rfl rfl rfl rfl (fun _ => Runs.iaA rfl f64 rfl Try.runUnderlying136 Try.sizeOf135 (chk_lo h73) (chk_hi h73)) ?_
        obtain ⟨_, h75, hm76⟩ := bnd hm74
        refine OKS.r rfl rfl rfl rfl (fun _ => Runs.iaA rfl rfl rfl Try.runUnderlying135 Try.sizeOf3 (chk_lo h75) (chk_hi h75)) ?_
        have hg77 := Arr.at_ a44 (k := (k17 * 9 + k45)) (by have hz0 := chk_lt h73; have hz1 := chk_lt h75; omega)
        refine OKS.st (j := 0) (vs := [.int .i64 1048576]) (cs' := List.flatMap encI (a44.set (k17 * 9 + k45) 1048576).l) rfl rfl rfl rfl hS60 rfl rfl rfl rfl Try.sizeOf3 (by have hz0 := chk_lt h73; have hz1 := chk_lt h75; simp only [List.length_append, List.length_cons, List.length_nil, whole_len (f := encI) (sz := 1) (N := 81) a44 (fun _ => rfl) rfl]; omega) rfl (setN_at (sz := 1) (fo := 0) (fun _ => rfl) _ _ _ _ hg77 (by omega) (Nat.le_of_ble_eq_true rfl) rfl) rfl ?_
        intro W78 hS79
        have hS80 : St ⟨w, [], φ⟩ φ58 [.blk b7 136 (List.flatMap encI (a44.set (k17 * 9 + k45) 1048576).l), .blk b2 136 (List.flatMap encI (Arr.fill 81 0).l)] W78 := hS79
        refine OKS.e ?_
        refine blockQ_n ?_
        refine thenQ_n ?_
        refine CK.reg (ks := []) (.fl 0 (.fl 1 (.nil))) rfl ?_
        refine OKS.r rfl rfl rfl rfl (fun _ => Runs.to (Runs.addw rfl fi57 rfl) (congrArg (Value.int .i64) hi68.out)) ?_
        refine OKS.r rfl rfl rfl rfl (fun _ => Runs.mv rfl rfl) ?_
        refine OKS.e ?_
        cases hm76
        exact thenQ_n ⟨rfl, ⟨φ58, rfl, f61, f62, f63, f64, f65, f66, le59, hS80⟩⟩
    · rintro σ82 W83 ⟨φ87, fi85, f90, f91, f92, f93, f94, f95, le88, hS89⟩
      have c96 : Hid (¬ ((↑((9 : Int) - 0).toNat : Int) < 9)) := Hid.mk (lp_end0)
      refine CK.seq ?_
      refine CK.reg (ks := []) (.fl 0 (.nil)) rfl ?_
      refine OKS.r rfl rfl rfl rfl (fun _ => Runs.lss rfl fi85 rfl) ?_
      refine OKS.e ?_
      refine thenQ_n ?_
      refine CK.seq ?_
      refine CK.condF (decF c96.out) ?_
      refine CK.exit ?_
      refine thenQ_e ?_
      refine thenQ_e ?_
      refine blockQ_h ?_
      refine blockQ_n ?_
      refine thenQ_n ?_
      refine CK.reg (ks := []) (.fl 0 (.fl 1 (.nil))) rfl ?_
      refine OKS.r rfl rfl rfl rfl (fun _ => Runs.to (Runs.addw rfl f95 rfl) (congrArg (Value.int .i64) hi38.out)) ?_
      refine OKS.r rfl rfl rfl rfl (fun _ => Runs.mv rfl rfl) ?_
      refine OKS.e ?_
      cases hm46
      exact thenQ_n ⟨rfl, ⟨φ87, rfl, f90, f91, f92, f93, (le31.trans le88), hS89⟩⟩
  · rintro σ98 W99 ⟨φ103, fi101, f106, f107, f108, f109, le104, hS105⟩
    have c110 : Hid (¬ ((↑((9 : Int) - 0).toNat : Int) < 9)) := Hid.mk (lp_end0)
    refine CK.seq ?_
    refine CK.reg (ks := []) (.fl 0 (.nil)) rfl ?_
    refine OKS.r rfl rfl rfl rfl (fun _ => Runs.lss rfl fi101 rfl) ?_
    refine OKS.e ?_
    refine thenQ_n ?_
    refine CK.seq ?_
    refine CK.condF (decF c110.out) ?_
    refine CK.exit ?_
    refine thenQ_e ?_
    refine thenQ_e ?_
    refine blockQ_h ?_
    refine thenQ_n ?_
    refine CK.seq ?_
    refine CK.seq ?_
    refine CK.reg (ks := []) (.fl 0 (.fl 1 (.fl 2 (.nil)))) rfl ?_
    refine OKS.r rfl rfl rfl rfl (fun _ => Runs.mv rfl f107) ?_
    refine OKS.r rfl rfl rfl rfl (fun _ => Runs.len rfl rfl Try.runUnderlying142) ?_
    refine OKS.r rfl rfl rfl rfl (fun _ => Runs.mv rfl rfl) ?_
    refine OKS.e ?_
    refine thenQ_n ?_
    refine CK.block ?_
    obtain ⟨y122, hf119, hm118⟩ := bnd hm18
    obtain ⟨hle120, hf121⟩ := forR'_le hf119
    replace hle120 := Hid.mk hle120
    refine CK.forN' (fun k117 a116 σ_ w_ => ∃ (φ_ : PHeap), σ_ 32 = .int .i64 (↑k117 : Int) ∧ σ_ 0 = .int .i64 p0 ∧ σ_ 4 = .pointer (some ⟨b2, 0, none⟩) ∧ σ_ 6 = .pointer (some ⟨b7, 0, none⟩) ∧ σ_ 30 = .slice pA1 p1.length pc1 ∧ σ_ 31 = .int .i64 (↑p1.length : Int) ∧ PHeap.Le φ103 φ_ ∧ St ⟨w, [], φ⟩ φ_ [.blk b7 136 (List.flatMap encI a116.l), .blk b2 136 (List.flatMap encI (Arr.fill 81 0).l)] w_) hf121 ?_ ?_ ?_
    · exact ⟨φ103, rfl, f106, f108, f109, rfl, rfl, (PHeap.Le.refl _), hS105⟩
    · rintro k117 a116 xx125 σ123 W124 hk128 ⟨φ130, fi129, f133, f134, f135, f136, f137, le131, hS132⟩ hx126
      have c138 : Hid ((↑k117 : Int) < (↑p1.length : Int)) := Hid.mk (lp_lt0 hk128)
      replace hk128 := Hid.mk hk128
      have hi139 : Hid (w64 ((↑k117 : Int) + 1) = (↑(k117 + 1) : Int)) := Hid.mk (by have h1 := hle120.out; have h2 := c138.out; rw [w64_in] <;> omega)
      refine CK.seq ?_
      refine CK.reg (ks := []) (.fl 0 (.nil)) rfl ?_
      refine OKS.r rfl rfl rfl rfl (fun _ => Runs.lss rfl fi129 f137) ?_
      refine OKS.e ?_
      refine thenQ_n ?_
      refine CK.seq ?_
      refine CK.condT (decT c138.out) ?_
      refine CK.skip ?_
      refine thenQ_n ?_
      refine CK.seq ?_
      refine CK.block ?_
      refine CK.seq ?_
      refine CK.reg (ks := []) (.fl 0 (.fl 1 (.fx 2 (.fx 3 (.nil) .stop) .stop))) rfl ?_
      obtain ⟨x140, h141, hm142⟩ := bnd hx126
      have h143 := ha0.le le104
      have h144 := h143.le le131
      obtain ⟨b145, off146, vs149, hA147, hC148, hr150⟩ := h144.el (idx_get h141)
      obtain ⟨pv151, rfl, h152⟩ := hr150
      replace hC148 : Cl φ130 b145 (off146 + k117 * 5) [.int .i64 x140.Step.Kind, .int .i64 x140.Step.Index, .int .i64 x140.from_, .int .i64 x140.to_, pv151] := hC148
      refine OKS.r rfl rfl rfl rfl (fun _ => Runs.iaN rfl f136 hA147 fi129 Try.runUnderlying142 Try.sizeOf189 (idx_lt h141)) ?_
      refine OKS.m rfl rfl rfl rfl (hS132.ldCA (f := 0) hC148 rfl rfl Try.isAgg189 Try.sizeOf189 (us := [.int .i64 x140.Step.Kind, .int .i64 x140.Step.Index, .int .i64 x140.from_, .int .i64 x140.to_, pv151]) rfl rfl) rfl ?_
      refine OKS.alloc (cs := [.int .i64 0, .int .i64 0, .int .i64 0, .int .i64 0, .nilFunc]) rfl rfl rfl rfl rfl Try.zeroValue189 rfl hS132 ?_
      intro W153 b154 hS155
      obtain ⟨fid157, fst158, cap159, he160, _⟩ := id h152
      subst he160
      refine OKS.st (j := 0) (vs := [.int .i64 x140.Step.Kind, .int .i64 x140.Step.Index, .int .i64 x140.from_, .int .i64 x140.to_, (.func (.func fid157) (List.toArray fst158) (List.toArray cap159))]) rfl rfl rfl rfl hS155 rfl rfl rfl rfl Try.sizeOf189 (Nat.le_of_ble_eq_true rfl) rfl rfl rfl ?_
      intro W161 hS162
      have hS163 : St ⟨w, [], φ⟩ φ130 [.blk b154 189 [.int .i64 x140.Step.Kind, .int .i64 x140.Step.Index, .int .i64 x140.from_, .int .i64 x140.to_, (.func (.func fid157) (List.toArray fst158) (List.toArray cap159))], .blk b7 136 (List.flatMap encI a116.l), .blk b2 136 (List.flatMap encI (Arr.fill 81 0).l)] W161 := hS162
      refine OKS.e ?_
      refine thenQ_n ?_
      refine CK.anyOrd Try.mixed [3, 1, 3, 1, 3, 1, 3, 1, 3, 3, 1, 3, 1, 2, 3, 3, 3, 0] (.fl 0 (.fl 1 (.fl 2 (.fl 3 (.fl 4 (.fl 5 (.fl 6 (.fl 7 (.fl 8 (.fl 9 (.fl 10 (.fl 11 (.fl 12 (.fl 15 (.fx 13 (.fl 14 (.fl 16 (.fx 17 (.nil) .stop))) .stop))))))))))))))) (by kernel_rfl) ?_
      have hS164 := hS163.drew
      generalize hw_W165 : ({ W161 with drawn := W161.drawn + 1 } : World) = W165 at hS164 ⊢
      refine OKS.r rfl rfl rfl rfl (fun _ => Runs.fa rfl rfl Try.runUnderlying189 rfl Try.sizeOf3) ?_
      refine OKS.m rfl rfl rfl rfl (hS164.ldB (j := 0) rfl rfl rfl Try.isAgg3 (v := .int .i64 x140.from_) rfl) rfl ?_
      refine OKS.r rfl rfl rfl rfl (fun _ => Runs.fa rfl rfl Try.runUnderlying189 rfl Try.sizeOf3) ?_
      refine OKS.m rfl rfl rfl rfl (hS164.ldB (j := 0) rfl rfl rfl Try.isAgg3 (v := .int .i64 x140.to_) rfl) rfl ?_
      refine OKS.r rfl rfl rfl rfl (fun _ => Runs.fa rfl rfl Try.runUnderlying189 rfl Try.sizeOf3) ?_
      refine OKS.m rfl rfl rfl rfl (hS164.ldB (j := 0) rfl rfl rfl Try.isAgg3 (v := .int .i64 x140.from_) rfl) rfl ?_
      refine OKS.r rfl rfl rfl rfl (fun _ => Runs.fa rfl rfl Try.runUnderlying189 rfl Try.sizeOf3) ?_
      refine OKS.m rfl rfl rfl rfl (hS164.ldB (j := 0) rfl rfl rfl Try.isAgg3 (v := .int .i64 x140.to_) rfl) rfl ?_
      obtain ⟨_, h166, hm167⟩ := bnd hm142
      refine OKS.r rfl rfl rfl rfl (fun _ => Runs.iaA rfl f135 rfl Try.runUnderlying136 Try.sizeOf135 (chk_lo h166) (chk_hi h166)) ?_
      obtain ⟨_, h168, hm169⟩ := bnd hm167
      refine OKS.r rfl rfl rfl rfl (fun _ => Runs.iaA rfl rfl rfl Try.runUnderlying135 Try.sizeOf3 (chk_lo h168) (chk_hi h168)) ?_
      have hg170 := Arr.at_ a116 (k := (x140.from_.toNat * 9 + x140.to_.toNat)) (by have hz0 := chk_lt h166; have hz1 := chk_lt h168; omega)
      refine OKS.m rfl rfl rfl rfl (hS164.ldB (j := 1) rfl rfl rfl Try.isAgg3 (flatMap_cell (sz := 1) (fun _ => rfl) _ _ 0 _ hg170 (by omega) rfl)) rfl ?_
      refine OKS.r rfl rfl rfl rfl (fun _ => Runs.fa rfl rfl Try.runUnderlying189 rfl Try.sizeOf187) ?_
      refine OKS.m rfl rfl rfl rfl (hS164.ldB (j := 0) rfl rfl rfl Try.isAgg187 (v := (.func (.func fid157) (List.toArray fst158) (List.toArray cap159))) rfl) rfl ?_
      refine OKS.r rfl rfl rfl rfl (fun _ => Runs.iaA rfl f135 rfl Try.runUnderlying136 Try.sizeOf135 (chk_lo h166) (chk_hi h166)) ?_
      obtain ⟨x171, h172, hm173⟩ := bnd hm169
      refine OKS.callV (a := ()) rfl rfl rfl rfl rfl rfl mapnil hS164 h152 rfl h172 ?_
      rintro φ174 L175 v176 W177 le178 hS179 ⟨rfl, rfl⟩
      have hS180 : St ⟨w, [], φ⟩ φ174 [.blk b154 189 [.int .i64 x140.Step.Kind, .int .i64 x140.Step.Index, .int .i64 x140.from_, .int .i64 x140.to_, (.func (.func fid157) (List.toArray fst158) (List.toArray cap159))], .blk b7 136 (List.flatMap encI a116.l), .blk b2 136 (List.flatMap encI (Arr.fill 81 0).l)] W177 := hS179
      refine OKS.r rfl rfl rfl rfl (fun _ => Runs.min rfl rfl rfl) ?_
      refine OKS.r rfl rfl rfl rfl (fun _ => Runs.iaA rfl rfl rfl Try.runUnderlying135 Try.sizeOf3 (chk_lo h168) (chk_hi h168)) ?_
      have hg181 := Arr.at_ a116 (k := (x140.from_.toNat * 9 + x140.to_.toNat)) (by have hz0 := chk_lt h166; have hz1 := chk_lt h168; omega)
      refine OKS.st (j := 1) (vs := [.int .i64 (min (a116.get (x140.from_.toNat * 9 + x140.to_.toNat)) x171)]) (cs' := List.flatMap encI (a116.set (x140.from_.toNat * 9 + x140.to_.toNat) (min (a116.get (x140.from_.toNat * 9 + x140.to_.toNat)) x171)).l) rfl rfl rfl rfl hS180 rfl rfl rfl rfl Try.sizeOf3 (by have hz0 := chk_lt h166; have hz1 := chk_lt h168; simp only [List.length_append, List.length_cons, List.length_nil, whole_len (f := encI) (sz := 1) (N := 81) a116 (fun _ => rfl) rfl]; omega) rfl (setN_at (sz := 1) (fo := 0) (fun _ => rfl) _ _ _ _ hg181 (by omega) (Nat.le_of_ble_eq_true rfl) rfl) rfl ?_
      intro W182 hS183
      have hS184 : St ⟨w, [], φ⟩ φ174 [.blk b154 189 [.int .i64 x140.Step.Kind, .int .i64 x140.Step.Index, .int .i64 x140.from_, .int .i64 x140.to_, (.func (.func fid157) (List.toArray fst158) (List.toArray cap159))], .blk b7 136 (List.flatMap encI (a116.set (x140.from_.toNat * 9 + x140.to_.toNat) (min (a116.get (x140.from_.toNat * 9 + x140.to_.toNat)) x171)).l), .blk b2 136 (List.flatMap encI (Arr.fill 81 0).l)] W182 := hS183
      refine OKS.e ?_
      refine blockQ_n ?_
      refine thenQ_n ?_
      refine CK.reg (ks := []) (.fl 0 (.fl 1 (.nil))) rfl ?_
      refine OKS.r rfl rfl rfl rfl (fun _ => Runs.to (Runs.addw rfl fi129 rfl) (congrArg (Value.int .i64) hi139.out)) ?_
      refine OKS.r rfl rfl rfl rfl (fun _ => Runs.mv rfl rfl) ?_
      refine OKS.e ?_
      cases hm173
      exact thenQ_n ⟨rfl, ⟨φ174, rfl, f133, f134, f135, f136, f137, (le131.trans le178), (hS184.pick [1, 2] _ (by decide) rfl)⟩⟩
    · rintro σ186 W187 ⟨φ191, fi189, f194, f195, f196, f197, f198, le192, hS193⟩
      have c199 : Hid (¬ ((↑(((↑p1.length : Int) : Int) - 0).toNat : Int) < (↑p1.length : Int))) := Hid.mk (lp_end0)
      refine CK.seq ?_
      refine CK.reg (ks := []) (.fl 0 (.nil)) rfl ?_
      refine OKS.r rfl rfl rfl rfl (fun _ => Runs.lss rfl fi189 f198) ?_
      refine OKS.e ?_
      refine thenQ_n ?_
      refine CK.seq ?_
      refine CK.condF (decF c199.out) ?_
      refine CK.exit ?_
      refine thenQ_e ?_
      refine thenQ_e ?_
      refine blockQ_h ?_
      refine thenQ_n ?_
      refine CK.seq ?_
      refine CK.seq ?_
      refine CK.reg (ks := []) (.fl 0 (.fl 1 (.fl 2 (.nil)))) rfl ?_
      refine OKS.r rfl rfl rfl rfl (fun _ => Runs.mv rfl f194) ?_
      refine OKS.r rfl rfl rfl rfl (fun _ => Runs.addw rfl rfl rfl) ?_
      refine OKS.r rfl rfl rfl rfl (fun _ => Runs.mv rfl rfl) ?_
      refine OKS.e ?_
      refine thenQ_n ?_
      refine CK.block ?_
      obtain ⟨y211, hf208, hm207⟩ := bnd hm118
      obtain ⟨hle209, hf210⟩ := forR'_le hf208
      replace hle209 := Hid.mk hle209
      refine CK.forN' (fun k206 a205 σ_ w_ => ∃ (φ_ : PHeap), σ_ 56 = .int .i64 (↑k206 : Int) ∧ σ_ 0 = .int .i64 p0 ∧ σ_ 4 = .pointer (some ⟨b2, 0, none⟩) ∧ σ_ 6 = .pointer (some ⟨b7, 0, none⟩) ∧ σ_ 55 = .int .i64 (w64 (p0 + 1)) ∧ PHeap.Le φ191 φ_ ∧ St ⟨w, [], φ⟩ φ_ [.blk b7 136 (List.flatMap encI a205.l), .blk b2 136 (List.flatMap encI (Arr.fill 81 0).l)] w_) hf210 ?_ ?_ ?_
      · exact ⟨φ191, rfl, f194, f195, f196, rfl, (PHeap.Le.refl _), hS193⟩
      · rintro k206 a205 xx214 σ212 W213 hk217 ⟨φ219, fi218, f222, f223, f224, f225, le220, hS221⟩ hx215
        have c226 : Hid ((↑k206 : Int) < (w64 (p0 + 1))) := Hid.mk (lp_lt0 hk217)
        replace hk217 := Hid.mk hk217
        have hi227 : Hid (w64 ((↑k206 : Int) + 1) = (↑(k206 + 1) : Int)) := Hid.mk (by have h1 := hle209.out; have h2 := c226.out; rw [w64_in] <;> omega)
        refine CK.seq ?_
        refine CK.reg (ks := []) (.fl 0 (.nil)) rfl ?_
        refine OKS.r rfl rfl rfl rfl (fun _ => Runs.lss rfl fi218 f225) ?_
        refine OKS.e ?_
        refine thenQ_n ?_
        refine CK.seq ?_
        refine CK.condT (decT c226.out) ?_
        refine CK.skip ?_
        refine thenQ_n ?_
        refine CK.seq ?_
        refine CK.block ?_
        refine CK.seq ?_
        refine CK.reg (ks := []) (.fl 0 (.fl 1 (.nil))) rfl ?_
        refine OKS.r rfl rfl rfl rfl (fun _ => Runs.mv rfl fi218) ?_
        refine OKS.r rfl rfl rfl rfl (fun _ => Runs.as rfl rfl) ?_
        refine OKS.e ?_
        refine thenQ_n ?_
        refine CK.seq ?_
        refine CK.reg (ks := []) (.fl 0 (.fl 1 (.fl 2 (.nil)))) rfl ?_
        refine OKS.r rfl rfl rfl rfl (fun _ => Runs.mv rfl f222) ?_
        refine OKS.r rfl rfl rfl rfl (fun _ => Runs.addw rfl rfl rfl) ?_
        refine OKS.r rfl rfl rfl rfl (fun _ => Runs.mv rfl rfl) ?_
        refine OKS.e ?_
        refine thenQ_n ?_
        refine CK.block ?_
        obtain ⟨y239, hf236, hm235⟩ := bnd hx215
        obtain ⟨hle237, hf238⟩ := forR'_le hf236
        replace hle237 := Hid.mk hle237
        refine CK.forN' (fun k234 a233 σ_ w_ => ∃ (φ_ : PHeap), σ_ 61 = .int .i64 (↑k234 : Int) ∧ σ_ 0 = .int .i64 p0 ∧ σ_ 4 = .pointer (some ⟨b2, 0, none⟩) ∧ σ_ 6 = .pointer (some ⟨b7, 0, none⟩) ∧ σ_ 11 = .int .i64 (↑k206 : Int) ∧ σ_ 55 = .int .i64 (w64 (p0 + 1)) ∧ σ_ 56 = .int .i64 (↑k206 : Int) ∧ σ_ 60 = .int .i64 (w64 (p0 + 1)) ∧ PHeap.Le φ219 φ_ ∧ St ⟨w, [], φ⟩ φ_ [.blk b7 136 (List.flatMap encI a233.l), .blk b2 136 (List.flatMap encI (Arr.fill 81 0).l)] w_) hf238 ?_ ?_ ?_
        · exact ⟨φ219, rfl, f222, f223, f224, rfl, f225, fi218, rfl, (PHeap.Le.refl _), hS221⟩
        · rintro k234 a233 xx242 σ240 W241 hk245 ⟨φ247, fi246, f250, f251, f252, f253, f254, f255, f256, le248, hS249⟩ hx243
          have c257 : Hid ((↑k234 : Int) < (w64 (p0 + 1))) := Hid.mk (lp_lt0 hk245)
          replace hk245 := Hid.mk hk245
          have hi258 : Hid (w64 ((↑k234 : Int) + 1) = (↑(k234 + 1) : Int)) := Hid.mk (by have h1 := hle237.out; have h2 := c257.out; rw [w64_in] <;> omega)
          refine CK.seq ?_
          refine CK.reg (ks := []) (.fl 0 (.nil)) rfl ?_
          refine OKS.r rfl rfl rfl rfl (fun _ => Runs.lss rfl fi246 f256) ?_
          refine OKS.e ?_
          refine thenQ_n ?_
          refine CK.seq ?_
          refine CK.condT (decT c257.out) ?_
          refine CK.skip ?_
          refine thenQ_n ?_
          refine CK.seq ?_
          refine CK.block ?_
          refine CK.seq ?_
          refine CK.reg (ks := []) (.fl 0 (.fl 1 (.nil))) rfl ?_
          refine OKS.r rfl rfl rfl rfl (fun _ => Runs.mv rfl fi246) ?_
          refine OKS.r rfl rfl rfl rfl (fun _ => Runs.as rfl rfl) ?_
          refine OKS.e ?_
          refine thenQ_n ?_
          refine CK.seq ?_
          refine CK.reg (ks := []) (.fl 0 (.fl 1 (.fl 2 (.nil)))) rfl ?_
          refine OKS.r rfl rfl rfl rfl (fun _ => Runs.mv rfl f250) ?_
          refine OKS.r rfl rfl rfl rfl (fun _ => Runs.addw rfl rfl rfl) ?_
          refine OKS.r rfl rfl rfl rfl (fun _ => Runs.mv rfl rfl) ?_
          refine OKS.e ?_
          refine thenQ_n ?_
          refine CK.block ?_
          obtain ⟨y270, hf267, hm266⟩ := bnd hx243
          obtain ⟨hle268, hf269⟩ := forR'_le hf267
          replace hle268 := Hid.mk hle268
          refine CK.forN' (fun k265 a264 σ_ w_ => ∃ (φ_ : PHeap), σ_ 66 = .int .i64 (↑k265 : Int) ∧ σ_ 0 = .int .i64 p0 ∧ σ_ 4 = .pointer (some ⟨b2, 0, none⟩) ∧ σ_ 6 = .pointer (some ⟨b7, 0, none⟩) ∧ σ_ 11 = .int .i64 (↑k206 : Int) ∧ σ_ 12 = .int .i64 (↑k234 : Int) ∧ σ_ 55 = .int .i64 (w64 (p0 + 1)) ∧ σ_ 56 = .int .i64 (↑k206 : Int) ∧ σ_ 60 = .int .i64 (w64 (p0 + 1)) ∧ σ_ 61 = .int .i64 (↑k234 : Int) ∧ σ_ 65 = .int .i64 (w64 (p0 + 1)) ∧ PHeap.Le φ247 φ_ ∧ St ⟨w, [], φ⟩ φ_ [.blk b7 136 (List.flatMap encI a264.l), .blk b2 136 (List.flatMap encI (Arr.fill 81 0).l)] w_) hf269 ?_ ?_ ?_
          · exact ⟨φ247, rfl, f250, f251, f252, f253, rfl, f254, f255, f256, fi246, rfl, (PHeap.Le.refl _), hS249⟩
          · rintro k265 a264 xx273 σ271 W272 hk276 ⟨φ278, fi277, f281, f282, f283, f284, f285, f286, f287, f288, f289, f290, le279, hS280⟩ hx274
            have c291 : Hid ((↑k265 : Int) < (w64 (p0 + 1))) := Hid.mk (lp_lt0 hk276)
            replace hk276 := Hid.mk hk276
            have hi292 : Hid (w64 ((↑k265 : Int) + 1) = (↑(k265 + 1) : Int)) := Hid.mk (by have h1 := hle268.out; have h2 := c291.out; rw [w64_in] <;> omega)
            refine CK.seq ?_
            refine CK.reg (ks := []) (.fl 0 (.nil)) rfl ?_
            refine OKS.r rfl rfl rfl rfl (fun _ => Runs.lss rfl fi277 f290) ?_
            refine OKS.e ?_
            refine thenQ_n ?_
            refine CK.seq ?_
            refine CK.condT (decT c291.out) ?_
            refine CK.skip ?_
            refine thenQ_n ?_
            refine CK.seq ?_
            refine CK.block ?_
            refine CK.seq ?_
            refine CK.reg (ks := []) (.fl 0 (.fl 1 (.nil))) rfl ?_
            refine OKS.r rfl rfl rfl rfl (fun _ => Runs.mv rfl fi277) ?_
            refine OKS.r rfl rfl rfl rfl (fun _ => Runs.as rfl rfl) ?_
            refine OKS.e ?_
            refine thenQ_n ?_
            refine CK.anyOrd Try.mixed [3, 3, 3, 3, 3, 3, 1, 3, 3, 3, 3, 1, 3, 3, 3, 3, 1, 3, 3, 3, 3, 0] (.fl 0 (.fl 1 (.fl 2 (.fl 3 (.fl 4 (.fl 5 (.fl 6 (.fl 7 (.fl 8 (.fl 9 (.fl 10 (.fl 11 (.fl 12 (.fl 13 (.fl 14 (.fl 15 (.fl 16 (.fl 17 (.fl 18 (.fl 19 (.fl 20 (.fx 21 (.nil) .stop)))))))))))))))))))))) (by kernel_rfl) ?_
            have hS293 := hS280.drew
            generalize hw_W294 : ({ W272 with drawn := W272.drawn + 1 } : World) = W294 at hS293 ⊢
            refine OKS.r rfl rfl rfl rfl (fun _ => Runs.mv rfl f285) ?_
            refine OKS.r rfl rfl rfl rfl (fun _ => Runs.mv rfl rfl) ?_
            refine OKS.r rfl rfl rfl rfl (fun _ => Runs.mv rfl f285) ?_
            refine OKS.r rfl rfl rfl rfl (fun _ => Runs.mv rfl rfl) ?_
            obtain ⟨_, h295, hm296⟩ := bnd hx274
            refine OKS.r rfl rfl rfl rfl (fun _ => Runs.iaA rfl f283 rfl Try.runUnderlying136 Try.sizeOf135 (chk_lo h295) (chk_hi h295)) ?_
            obtain ⟨_, h297, hm298⟩ := bnd hm296
            refine OKS.r rfl rfl rfl rfl (fun _ => Runs.iaA rfl rfl rfl Try.runUnderlying135 Try.sizeOf3 (chk_lo h297) (chk_hi h297)) ?_
            have hg299 := Arr.at_ a264 (k := (k234 * 9 + k265)) (by have hz0 := chk_lt h295; have hz1 := chk_lt h297; omega)
            refine OKS.m rfl rfl rfl rfl (hS293.ldB (j := 0) rfl rfl rfl Try.isAgg3 (flatMap_cell (sz := 1) (fun _ => rfl) _ _ 0 _ hg299 (by omega) rfl)) rfl ?_
            refine OKS.r rfl rfl rfl rfl (fun _ => Runs.mv rfl f285) ?_
            refine OKS.r rfl rfl rfl rfl (fun _ => Runs.mv rfl f284) ?_
            refine OKS.r rfl rfl rfl rfl (fun _ => Runs.iaA rfl f283 rfl Try.runUnderlying136 Try.sizeOf135 (chk_lo h295) (chk_hi h295)) ?_
            obtain ⟨_, h300, hm301⟩ := bnd hm298
            refine OKS.r rfl rfl rfl rfl (fun _ => Runs.iaA rfl rfl rfl Try.runUnderlying135 Try.sizeOf3 (chk_lo h300) (chk_hi h300)) ?_
            have hg302 := Arr.at_ a264 (k := (k234 * 9 + k206)) (by have hz0 := chk_lt h295; have hz1 := chk_lt h300; omega)
            refine OKS.m rfl rfl rfl rfl (hS293.ldB (j := 0) rfl rfl rfl Try.isAgg3 (flatMap_cell (sz := 1) (fun _ => rfl) _ _ 0 _ hg302 (by omega) rfl)) rfl ?_
            refine OKS.r rfl rfl rfl rfl (fun _ => Runs.mv rfl f284) ?_
            refine OKS.r rfl rfl rfl rfl (fun _ => Runs.mv rfl rfl) ?_
            refine OKS.r rfl rfl rfl rfl (fun _ => Runs.iaA rfl f283 rfl Try.runUnderlying136 Try.sizeOf135 (chk_lo h300) (chk_hi h300)) ?_
            refine OKS.r rfl rfl rfl rfl (fun _ => Runs.iaA rfl rfl rfl Try.runUnderlying135 Try.sizeOf3 (chk_lo h297) (chk_hi h297)) ?_
            have hg303 := Arr.at_ a264 (k := (k206 * 9 + k265)) (by have hz0 := chk_lt h300; have hz1 := chk_lt h297; omega)
            refine OKS.m rfl rfl rfl rfl (hS293.ldB (j := 0) rfl rfl rfl Try.isAgg3 (flatMap_cell (sz := 1) (fun _ => rfl) _ _ 0 _ hg303 (by omega) rfl)) rfl ?_
            refine OKS.r rfl rfl rfl rfl (fun _ => Runs.addw rfl rfl rfl) ?_
            refine OKS.r rfl rfl rfl rfl (fun _ => Runs.min rfl rfl rfl) ?_
            refine OKS.r rfl rfl rfl rfl (fun _ => Runs.iaA rfl f283 rfl Try.runUnderlying136 Try.sizeOf135 (chk_lo h295) (chk_hi h295)) ?_
            refine OKS.r rfl rfl rfl rfl (fun _ => Runs.iaA rfl rfl rfl Try.runUnderlying135 Try.sizeOf3 (chk_lo h297) (chk_hi h297)) ?_
            have hg304 := Arr.at_ a264 (k := (k234 * 9 + k265)) (by have hz0 := chk_lt h295; have hz1 := chk_lt h297; omega)
            refine OKS.st (j := 0) (vs := [.int .i64 (min (a264.get (k234 * 9 + k265)) (w64 ((a264.get (k234 * 9 + k206)) + (a264.get (k206 * 9 + k265)))))]) (cs' := List.flatMap encI (a264.set (k234 * 9 + k265) (min (a264.get (k234 * 9 + k265)) (w64 ((a264.get (k234 * 9 + k206)) + (a264.get (k206 * 9 + k265)))))).l) rfl rfl rfl rfl hS293 rfl rfl rfl rfl Try.sizeOf3 (by have hz0 := chk_lt h295; have hz1 := chk_lt h297; simp only [List.length_append, List.length_cons, List.length_nil, whole_len (f := encI) (sz := 1) (N := 81) a264 (fun _ => rfl) rfl]; omega) rfl (setN_at (sz := 1) (fo := 0) (fun _ => rfl) _ _ _ _ hg304 (by omega) (Nat.le_of_ble_eq_true rfl) rfl) rfl ?_
            intro W305 hS306
            have hS307 : St ⟨w, [], φ⟩ φ278 [.blk b7 136 (List.flatMap encI (a264.set (k234 * 9 + k265) (min (a264.get (k234 * 9 + k265)) (w64 ((a264.get (k234 * 9 + k206)) + (a264.get (k206 * 9 + k265)))))).l), .blk b2 136 (List.flatMap encI (Arr.fill 81 0).l)] W305 := hS306
            refine OKS.e ?_
            refine blockQ_n ?_
            refine thenQ_n ?_
            refine CK.reg (ks := []) (.fl 0 (.fl 1 (.nil))) rfl ?_
            refine OKS.r rfl rfl rfl rfl (fun _ => Runs.to (Runs.addw rfl fi277 rfl) (congrArg (Value.int .i64) hi292.out)) ?_
            refine OKS.r rfl rfl rfl rfl (fun _ => Runs.mv rfl rfl) ?_
            refine OKS.e ?_
            cases hm301
            exact thenQ_n ⟨rfl, ⟨φ278, rfl, f281, f282, f283, f284, f285, f286, f287, f288, f289, f290, le279, hS307⟩⟩
          · rintro σ309 W310 ⟨φ314, fi312, f317, f318, f319, f320, f321, f322, f323, f324, f325, f326, le315, hS316⟩
            have c327 : Hid (¬ ((↑((w64 (p0 + 1) : Int) - 0).toNat : Int) < (w64 (p0 + 1)))) := Hid.mk (lp_end0)
            refine CK.seq ?_
            refine CK.reg (ks := []) (.fl 0 (.nil)) rfl ?_
            refine OKS.r rfl rfl rfl rfl (fun _ => Runs.lss rfl fi312 f326) ?_
            refine OKS.e ?_
            refine thenQ_n ?_
            refine CK.seq ?_
            refine CK.condF (decF c327.out) ?_
            refine CK.exit ?_
            refine thenQ_e ?_
            refine thenQ_e ?_
            refine blockQ_h ?_
            refine blockQ_n ?_
            refine thenQ_n ?_
            refine CK.reg (ks := []) (.fl 0 (.fl 1 (.nil))) rfl ?_
            refine OKS.r rfl rfl rfl rfl (fun _ => Runs.to (Runs.addw rfl f325 rfl) (congrArg (Value.int .i64) hi258.out)) ?_
            refine OKS.r rfl rfl rfl rfl (fun _ => Runs.mv rfl rfl) ?_
            refine OKS.e ?_
            cases hm266
            exact thenQ_n ⟨rfl, ⟨φ314, rfl, f317, f318, f319, f320, f322, f323, f324, (le248.trans le315), hS316⟩⟩
        · rintro σ329 W330 ⟨φ334, fi332, f337, f338, f339, f340, f341, f342, f343, le335, hS336⟩
          have c344 : Hid (¬ ((↑((w64 (p0 + 1) : Int) - 0).toNat : Int) < (w64 (p0 + 1)))) := Hid.mk (lp_end0)
          refine CK.seq ?_
          refine CK.reg (ks := []) (.fl 0 (.nil)) rfl ?_
          refine OKS.r rfl rfl rfl rfl (fun _ => Runs.lss rfl fi332 f343) ?_
          refine OKS.e ?_
          refine thenQ_n ?_
          refine CK.seq ?_
          refine CK.condF (decF c344.out) ?_
          refine CK.exit ?_
          refine thenQ_e ?_
          refine thenQ_e ?_
          refine blockQ_h ?_
          refine blockQ_n ?_
          refine thenQ_n ?_
          refine CK.reg (ks := []) (.fl 0 (.fl 1 (.nil))) rfl ?_
          refine OKS.r rfl rfl rfl rfl (fun _ => Runs.to (Runs.addw rfl f342 rfl) (congrArg (Value.int .i64) hi227.out)) ?_
          refine OKS.r rfl rfl rfl rfl (fun _ => Runs.mv rfl rfl) ?_
          refine OKS.e ?_
          cases hm235
          exact thenQ_n ⟨rfl, ⟨φ334, rfl, f337, f338, f339, f341, (le220.trans le335), hS336⟩⟩
      · rintro σ346 W347 ⟨φ351, fi349, f354, f355, f356, f357, le352, hS353⟩
        have c358 : Hid (¬ ((↑((w64 (p0 + 1) : Int) - 0).toNat : Int) < (w64 (p0 + 1)))) := Hid.mk (lp_end0)
        refine CK.seq ?_
        refine CK.reg (ks := []) (.fl 0 (.nil)) rfl ?_
        refine OKS.r rfl rfl rfl rfl (fun _ => Runs.lss rfl fi349 f357) ?_
        refine OKS.e ?_
        refine thenQ_n ?_
        refine CK.seq ?_
        refine CK.condF (decF c358.out) ?_
        refine CK.exit ?_
        refine thenQ_e ?_
        refine thenQ_e ?_
        refine blockQ_h ?_
        refine thenQ_n ?_
        refine CK.seq ?_
        refine CK.seq ?_
        refine CK.reg (ks := []) (.fl 0 (.fl 1 (.fl 2 (.nil)))) rfl ?_
        refine OKS.r rfl rfl rfl rfl (fun _ => Runs.mv rfl f354) ?_
        refine OKS.r rfl rfl rfl rfl (fun _ => Runs.addw rfl rfl rfl) ?_
        refine OKS.r rfl rfl rfl rfl (fun _ => Runs.mv rfl rfl) ?_
        refine OKS.e ?_
        refine thenQ_n ?_
        refine CK.block ?_
        obtain ⟨r361, hX362⟩ := jn_some hm207
        obtain ⟨hle363, hf364⟩ := forR_le hX362
        replace hle363 := Hid.mk hle363
        refine CK.forN (fun k360 _ σ_ w_ => ∃ (φ_ : PHeap), σ_ 95 = .int .i64 (↑k360 : Int) ∧ σ_ 4 = .pointer (some ⟨b2, 0, none⟩) ∧ σ_ 6 = .pointer (some ⟨b7, 0, none⟩) ∧ σ_ 94 = .int .i64 (w64 (p0 + 1)) ∧ PHeap.Le φ351 φ_ ∧ St ⟨w, [], φ⟩ φ_ [.blk b7 136 (List.flatMap encI y211.l), .blk b2 136 (List.flatMap encI (Arr.fill 81 0).l)] w_) hf364 ?_ ?_ ?_
        · exact ⟨φ351, rfl, f355, f356, rfl, (PHeap.Le.refl _), hS353⟩
        · rintro k360 ⟨⟩ xx367 σ365 W366 hk370 ⟨φ372, fi371, f375, f376, f377, le373, hS374⟩ hx368 hb369
          try dsimp only at hx368
          have c378 : Hid ((↑k360 : Int) < (w64 (p0 + 1))) := Hid.mk (lp_lt0 hk370)
          replace hk370 := Hid.mk hk370
          have hi379 : Hid (w64 ((↑k360 : Int) + 1) = (↑(k360 + 1) : Int)) := Hid.mk (by have h1 := hle363.out; have h2 := c378.out; rw [w64_in] <;> omega)
          refine CK.seq ?_
          refine CK.reg (ks := []) (.fl 0 (.nil)) rfl ?_
          refine OKS.r rfl rfl rfl rfl (fun _ => Runs.lss rfl fi371 f377) ?_
          refine OKS.e ?_
          refine thenQ_n ?_
          refine CK.seq ?_
          refine CK.condT (decT c378.out) ?_
          refine CK.skip ?_
          refine thenQ_n ?_
          refine CK.seq ?_
          refine CK.block ?_
          refine CK.seq ?_
          refine CK.reg (ks := []) (.fl 0 (.fl 1 (.nil))) rfl ?_
          refine OKS.r rfl rfl rfl rfl (fun _ => Runs.mv rfl fi371) ?_
          refine OKS.r rfl rfl rfl rfl (fun _ => Runs.as rfl rfl) ?_
          refine OKS.e ?_
          refine thenQ_n ?_
          refine CK.seq ?_
          refine CK.reg (ks := []) (.fl 0 (.fl 1 (.fl 2 (.fl 3 (.fl 4 (.fl 5 (.nil))))))) rfl ?_
          refine OKS.r rfl rfl rfl rfl (fun _ => Runs.mv rfl rfl) ?_
          refine OKS.r rfl rfl rfl rfl (fun _ => Runs.mv rfl rfl) ?_
          obtain ⟨_, h380, hm381⟩ := bnd hx368
          refine OKS.r rfl rfl rfl rfl (fun _ => Runs.iaA rfl f376 rfl Try.runUnderlying136 Try.sizeOf135 (chk_lo h380) (chk_hi h380)) ?_
          refine OKS.r rfl rfl rfl rfl (fun _ => Runs.iaA rfl rfl rfl Try.runUnderlying135 Try.sizeOf3 (chk_lo h380) (chk_hi h380)) ?_
          have hg382 := Arr.at_ y211 (k := (k360 * 9 + k360)) (by have hz0 := chk_lt h380; have hz1 := chk_lt h380; omega)
          refine OKS.m rfl rfl rfl rfl (hS374.ldB (j := 0) rfl rfl rfl Try.isAgg3 (flatMap_cell (sz := 1) (fun _ => rfl) _ _ 0 _ hg382 (by omega) rfl)) rfl ?_
          refine OKS.r rfl rfl rfl rfl (fun _ => Runs.lss rfl rfl rfl) ?_
          refine OKS.e ?_
          refine thenQ_n ?_
          by_cases c383 : (y211.get (k360 * 9 + k360)) < 0
          · have hm384 := hm381; rw [if_pos c383] at hm384; replace c383 := Hid.mk c383
            refine CK.condT (decT c383.out) ?_
            refine CK.seq ?_
            refine CK.reg (ks := []) (.fl 0 (.fx 1 (.fl 2 (.nil)) .stop)) rfl ?_
            refine OKS.m rfl rfl rfl rfl (hS374.ldBA (j := 0) rfl rfl f376 Try.isAgg136 Try.sizeOf136 (vs := List.flatMap encI y211.l) (whole y211 (fun _ => rfl) rfl) (whole_len y211 (fun _ => rfl) rfl)) rfl ?_
            refine OKS.st (j := 1) (vs := List.flatMap encI y211.l) rfl rfl rfl rfl hS374 rfl f375 rfl rfl (fun w => by rw [whole_len (f := encI) (sz := 1) (N := 81) y211 (fun _ => rfl) rfl]; exact Try.sizeOf136 w) (by rw [whole_len (f := encI) (sz := 1) (N := 81) y211 (fun _ => rfl) rfl, whole_len (f := encI) (sz := 1) (N := 81) (Arr.fill 81 0) (fun _ => rfl) rfl]; exact Nat.le_of_ble_eq_true rfl) (all_one_flat (fun _ => rfl) _) (setN_all _ _ (by rw [whole_len (f := encI) (sz := 1) (N := 81) y211 (fun _ => rfl) rfl, whole_len (f := encI) (sz := 1) (N := 81) (Arr.fill 81 0) (fun _ => rfl) rfl])) rfl ?_
            intro W385 hS386
            have hS387 : St ⟨w, [], φ⟩ φ372 [.blk b7 136 (List.flatMap encI y211.l), .blk b2 136 (List.flatMap encI y211.l)] W385 := hS386
            refine OKS.r rfl rfl rfl rfl (fun _ => Runs.as rfl rfl) ?_
            refine OKS.e ?_
            refine thenQ_n ?_
            refine CK.ret ?_
            refine blockQ_r ?_
            refine thenQ_r ?_
            obtain ⟨v388, hm389, e390⟩ := esc_spec hm384
            obtain rfl := jn_inr hm207 hX362 (hb369 v388 e390)
            refine thenQ_r ?_
            refine blockQ_r ?_
            refine thenQ_r ?_
            cases hm389
            exact ⟨rfl, _, (resLn (rs := [.cell 4 136, .tmp 5]) (vs := [.agg (List.flatMap encI y211.l).toArray, .bool false]) ⟨⟨_, f375, (ldvarA Try.isAgg136 Try.sizeOf136 (hS387.blkAt (k := 1) rfl) (whole y211 (fun _ => rfl) rfl) (whole_len y211 (fun _ => rfl) rfl))⟩, ⟨rfl, trivial⟩⟩ rfl), φ372, _, (hS387.pick [] _ (by decide) rfl), rfl, rfl⟩
          · have hm391 := hm381; rw [if_neg c383] at hm391; replace c383 := Hid.mk c383
            refine CK.condF (decF c383.out) ?_
            refine CK.skip ?_
            refine blockQ_n ?_
            refine thenQ_n ?_
            refine CK.reg (ks := []) (.fl 0 (.fl 1 (.nil))) rfl ?_
            refine OKS.r rfl rfl rfl rfl (fun _ => Runs.to (Runs.addw rfl fi371 rfl) (congrArg (Value.int .i64) hi379.out)) ?_
            refine OKS.r rfl rfl rfl rfl (fun _ => Runs.mv rfl rfl) ?_
            refine OKS.e ?_
            obtain rfl := Option.some.inj hm391
            exact thenQ_n ⟨rfl, _, rfl, ⟨φ372, rfl, f375, f376, f377, le373, hS374⟩⟩
        · rintro ⟨⟩ σ392 W393 ⟨φ396, fi395, f399, f400, f401, le397, hS398⟩ hb394
          have hm402 := jn_inl hm207 hX362 hb394
          try dsimp only at hm402
          have c403 : Hid (¬ ((↑((w64 (p0 + 1) : Int) - 0).toNat : Int) < (w64 (p0 + 1)))) := Hid.mk (lp_end0)
          refine CK.seq ?_
          refine CK.reg (ks := []) (.fl 0 (.nil)) rfl ?_
          refine OKS.r rfl rfl rfl rfl (fun _ => Runs.lss rfl fi395 f401) ?_
          refine OKS.e ?_
          refine thenQ_n ?_
          refine CK.seq ?_
          refine CK.condF (decF c403.out) ?_
          refine CK.exit ?_
          refine thenQ_e ?_
          refine thenQ_e ?_
          refine blockQ_h ?_
          refine thenQ_n ?_
          refine CK.seq ?_
          refine CK.reg (ks := []) (.fl 0 (.fx 1 (.fl 2 (.nil)) .stop)) rfl ?_
          refine OKS.m rfl rfl rfl rfl (hS398.ldBA (j := 0) rfl rfl f400 Try.isAgg136 Try.sizeOf136 (vs := List.flatMap encI y211.l) (whole y211 (fun _ => rfl) rfl) (whole_len y211 (fun _ => rfl) rfl)) rfl ?_
          refine OKS.st (j := 1) (vs := List.flatMap encI y211.l) rfl rfl rfl rfl hS398 rfl f399 rfl rfl (fun w => by rw [whole_len (f := encI) (sz := 1) (N := 81) y211 (fun _ => rfl) rfl]; exact Try.sizeOf136 w) (by rw [whole_len (f := encI) (sz := 1) (N := 81) y211 (fun _ => rfl) rfl, whole_len (f := encI) (sz := 1) (N := 81) (Arr.fill 81 0) (fun _ => rfl) rfl]; exact Nat.le_of_ble_eq_true rfl) (all_one_flat (fun _ => rfl) _) (setN_all _ _ (by rw [whole_len (f := encI) (sz := 1) (N := 81) y211 (fun _ => rfl) rfl, whole_len (f := encI) (sz := 1) (N := 81) (Arr.fill 81 0) (fun _ => rfl) rfl])) rfl ?_
          intro W404 hS405
          have hS406 : St ⟨w, [], φ⟩ φ396 [.blk b7 136 (List.flatMap encI y211.l), .blk b2 136 (List.flatMap encI y211.l)] W404 := hS405
          refine OKS.r rfl rfl rfl rfl (fun _ => Runs.as rfl rfl) ?_
          refine OKS.e ?_
          refine thenQ_n ?_
          refine CK.ret ?_
          cases hm402
          exact ⟨rfl, _, (resLn (rs := [.cell 4 136, .tmp 5]) (vs := [.agg (List.flatMap encI y211.l).toArray, .bool true]) ⟨⟨_, f399, (ldvarA Try.isAgg136 Try.sizeOf136 (hS406.blkAt (k := 1) rfl) (whole y211 (fun _ => rfl) rfl) (whole_len y211 (fun _ => rfl) rfl))⟩, ⟨rfl, trivial⟩⟩ rfl), φ396, _, (hS406.pick [] _ (by decide) rfl), rfl, rfl⟩

set_option maxHeartbeats 4000000 in
theorem w_target_counted (p0 : Int) (p1 : List T_target_Sheet) (pA1 : Option Addr) (pc1 : Nat) (w : World) (φ : PHeap) (hS : St ⟨w, [], φ⟩ φ [] w) (ha0 : Sl φ 4 pA1 pc1 p1.length (List.flatMap encT_target_Sheet p1)) {r : (Arr Int 81) × Int} (hm : m_target_counted p0 p1 = some r) : Gv Try.prog 74 [.int .i64 p0, .slice pA1 p1.length pc1] w (RetS w [] φ (fun φ_ L_ v => v = .tuple #[.agg (List.flatMap encI r.1.l).toArray, .int .i64 r.2] ∧ L_ = [])) := by
  unfold m_target_counted at hm
  refine Gv.of Try.func74 rfl Try.ntmps74 Try.results74 rfl ?_
  refine CK.seq ?_
  refine CK.reg (ks := []) (.fx 0 (.fl 1 (.nil)) .stop) rfl ?_
  refine OKS.alloc (cs := List.flatMap encI (Arr.fill 81 0).l) rfl rfl rfl rfl rfl Try.zeroValue136 rfl hS ?_
  intro W1 b2 hS3
  have hS5 : St ⟨w, [], φ⟩ φ [.blk b2 136 (List.flatMap encI (Arr.fill 81 0).l)] W1 := hS3
  refine OKS.r rfl rfl rfl rfl (fun _ => Runs.as rfl rfl) ?_
  refine OKS.e ?_
  refine thenQ_n ?_
  refine CK.seq ?_
  refine CK.seq ?_
  refine CK.reg (ks := []) (.fl 0 (.fl 1 (.fx 2 (.fl 3 (.nil)) .stop))) rfl ?_
  refine OKS.r rfl rfl rfl rfl (fun _ => Runs.mv rfl rfl) ?_
  refine OKS.r rfl rfl rfl rfl (fun _ => Runs.mv rfl rfl) ?_
  obtain ⟨x6, h7, hm8⟩ := bnd hm
  refine OKS.callH 0 rfl rfl rfl rfl (Enters.mk rfl rfl Try.call27 (mapcons rfl (mapcons rfl mapnil)) rfl) hS5 (fun hs => w_target_CheckSheets p0 p1 pA1 pc1 W1 φ hs ha0 h7) (.inr rfl) ?_
  rintro φ9 L10 v11 W12 le13 hS14 ⟨rfl, rfl⟩
  have hS15 : St ⟨w, [], φ⟩ φ9 [.blk b2 136 (List.flatMap encI (Arr.fill 81 0).l)] W12 := hS14
  refine OKS.r rfl rfl rfl rfl (fun _ => Runs.as rfl rfl) ?_
  refine OKS.e ?_
  refine thenQ_n ?_
  refine CK.seq ?_
  refine CK.reg (ks := []) (.fl 0 (.fl 1 (.nil))) rfl ?_
  refine OKS.r rfl rfl rfl rfl (fun _ => Runs.mv rfl rfl) ?_
  refine OKS.r rfl rfl rfl rfl (fun _ => Runs.neq rfl rfl rfl) ?_
  refine OKS.e ?_
  refine thenQ_n ?_
  by_cases c16 : x6 = 0
  · have hm17 := hm8; rw [if_pos c16] at hm17; replace c16 := Hid.mk c16
    refine CK.condF (decF (fun h => h c16.out)) ?_
    refine CK.skip ?_
    refine thenQ_n ?_
    refine CK.seq ?_
    refine CK.reg (ks := []) (.fl 0 (.fl 1 (.fl 2 (.fx 3 (.fx 4 (.fl 5 (.fl 6 (.fl 7 (.fx 8 (.fx 9 (.fl 10 (.nil)) .stop) .stop)))) .stop) .stop)))) rfl ?_
    refine OKS.r rfl rfl rfl rfl (fun _ => Runs.mv rfl rfl) ?_
    refine OKS.r rfl rfl rfl rfl (fun _ => Runs.mv rfl rfl) ?_
    refine OKS.r rfl rfl rfl rfl (fun _ => Runs.mv rfl rfl) ?_
    have h18 := ha0.le le13
    obtain ⟨x19, h20, hm21⟩ := bnd hm17
    refine OKS.callH 0 rfl rfl rfl rfl (Enters.mk rfl rfl Try.call77 (mapcons rfl (mapcons rfl (mapcons rfl mapnil))) rfl) hS15 (fun hs => w_target_links p0 p1 pA1 pc1 [] none 0 W12 φ9 hs h18 (by first | exact Sl.nil _ _ _ _ | exact SlR.nil) h20) (.inr rfl) ?_
    rintro φ22 L23 v24 W25 le26 hS27 ⟨A28, c29, c30, rfl, rfl, h32⟩
    have hS33 : St ⟨w, [], φ⟩ φ22 [.row A28 c29 189 5 c30, .blk b2 136 (List.flatMap encI (Arr.fill 81 0).l)] W25 := hS27
    obtain ⟨φ34, le35, hs36, hS37⟩ := hS33.freezeRR (R := rl189) (k := 0) rfl h32 rfl (by decide)
    have hS38 : St ⟨w, [], φ⟩ φ34 [.blk b2 136 (List.flatMap encI (Arr.fill 81 0).l)] W25 := hS37
    obtain ⟨⟨x39, x40⟩, h41, hm42⟩ := bnd hm21
    try dsimp only at hm42
    refine OKS.callH 0 rfl rfl rfl rfl (Enters.mk rfl rfl Try.call76 (mapcons rfl (mapcons rfl mapnil)) rfl) hS38 (fun hs => w_target_distances p0 x19 A28 c29 W25 φ34 hs hs36 h41) (.inr rfl) ?_
    rintro φ43 L44 v45 W46 le47 hS48 ⟨rfl, rfl⟩
    have hS49 : St ⟨w, [], φ⟩ φ43 [.blk b2 136 (List.flatMap encI (Arr.fill 81 0).l)] W46 := hS48
    refine OKS.r rfl rfl rfl rfl (fun _ => Runs.mv rfl rfl) ?_
    refine OKS.r rfl rfl rfl rfl (fun _ => Runs.ext rfl rfl (v := .agg (List.flatMap encI x39.l).toArray) rfl) ?_
    refine OKS.r rfl rfl rfl rfl (fun _ => Runs.ext rfl rfl (v := .bool x40) rfl) ?_
    refine OKS.alloc (cs := List.flatMap encI (Arr.fill 81 0).l) rfl rfl rfl rfl rfl Try.zeroValue136 rfl hS49 ?_
    intro W50 b51 hS52
    have hS54 : St ⟨w, [], φ⟩ φ43 [.blk b51 136 (List.flatMap encI (Arr.fill 81 0).l), .blk b2 136 (List.flatMap encI (Arr.fill 81 0).l)] W50 := hS52
    refine OKS.st (j := 0) (vs := List.flatMap encI x39.l) rfl rfl rfl rfl hS54 rfl rfl rfl rfl (fun w => by rw [whole_len (f := encI) (sz := 1) (N := 81) x39 (fun _ => rfl) rfl]; exact Try.sizeOf136 w) (by rw [whole_len (f := encI) (sz := 1) (N := 81) x39 (fun _ => rfl) rfl, whole_len (f := encI) (sz := 1) (N := 81) (Arr.fill 81 0) (fun _ => rfl) rfl]; exact Nat.le_of_ble_eq_true rfl) (all_one_flat (fun _ => rfl) _) (setN_all _ _ (by rw [whole_len (f := encI) (sz := 1) (N := 81) x39 (fun _ => rfl) rfl, whole_len (f := encI) (sz := 1) (N := 81) (Arr.fill 81 0) (fun _ => rfl) rfl])) rfl ?_
    intro W55 hS56
    have hS57 : St ⟨w, [], φ⟩ φ43 [.blk b51 136 (List.flatMap encI x39.l), .blk b2 136 (List.flatMap encI (Arr.fill 81 0).l)] W55 := hS56
    refine OKS.r rfl rfl rfl rfl (fun _ => Runs.as rfl rfl) ?_
    refine OKS.e ?_
    refine thenQ_n ?_
    refine CK.seq ?_
    refine CK.seq ?_
    refine CK.reg (ks := []) (.fl 0 (.fl 1 (.nil))) rfl ?_
    refine OKS.r rfl rfl rfl rfl (fun _ => Runs.mv rfl rfl) ?_
    refine OKS.r rfl rfl rfl rfl (fun _ => Runs.notT rfl rfl) ?_
    refine OKS.e ?_
    refine thenQ_n ?_
    by_cases c58 : x40 = true
    · have hm59 := hm42; rw [if_pos c58] at hm59; replace c58 := Hid.mk c58
      refine CK.condF (congrArg (fun b => Value.bool (!b)) c58.out) ?_
      refine CK.skip ?_
      refine thenQ_n ?_
      refine CK.seq ?_
      refine CK.reg (ks := []) (.fl 0 (.fx 1 (.fl 2 (.nil)) .stop)) rfl ?_
      refine OKS.m rfl rfl rfl rfl (hS57.ldBA (j := 0) rfl rfl rfl Try.isAgg136 Try.sizeOf136 (vs := List.flatMap encI x39.l) (whole x39 (fun _ => rfl) rfl) (whole_len x39 (fun _ => rfl) rfl)) rfl ?_
      refine OKS.st (j := 1) (vs := List.flatMap encI x39.l) rfl rfl rfl rfl hS57 rfl rfl rfl rfl (fun w => by rw [whole_len (f := encI) (sz := 1) (N := 81) x39 (fun _ => rfl) rfl]; exact Try.sizeOf136 w) (by rw [whole_len (f := encI) (sz := 1) (N := 81) x39 (fun _ => rfl) rfl, whole_len (f := encI) (sz := 1) (N := 81) (Arr.fill 81 0) (fun _ => rfl) rfl]; exact Nat.le_of_ble_eq_true rfl) (all_one_flat (fun _ => rfl) _) (setN_all _ _ (by rw [whole_len (f := encI) (sz := 1) (N := 81) x39 (fun _ => rfl) rfl, whole_len (f := encI) (sz := 1) (N := 81) (Arr.fill 81 0) (fun _ => rfl) rfl])) rfl ?_
      intro W60 hS61
      have hS62 : St ⟨w, [], φ⟩ φ43 [.blk b51 136 (List.flatMap encI x39.l), .blk b2 136 (List.flatMap encI x39.l)] W60 := hS61
      refine OKS.r rfl rfl rfl rfl (fun _ => Runs.as rfl rfl) ?_
      refine OKS.e ?_
      refine thenQ_n ?_
      refine CK.ret ?_
      cases hm59
      exact ⟨rfl, _, (resLn (rs := [.cell 4 136, .tmp 5]) (vs := [.agg (List.flatMap encI x39.l).toArray, .int .i64 0]) ⟨⟨_, rfl, (ldvarA Try.isAgg136 Try.sizeOf136 (hS62.blkAt (k := 1) rfl) (whole x39 (fun _ => rfl) rfl) (whole_len x39 (fun _ => rfl) rfl))⟩, ⟨rfl, trivial⟩⟩ rfl), φ43, _, (hS62.pick [] _ (by decide) rfl), rfl, rfl⟩
    · have hm63 := hm42; rw [if_neg c58] at hm63; replace c58 := Hid.mk c58
      refine CK.condT (congrArg (fun b => Value.bool (!b)) (Bool.eq_false_iff.2 c58.out)) ?_
      refine CK.seq ?_
      refine CK.reg (ks := []) (.fl 0 (.fx 1 (.fl 2 (.nil)) .stop)) rfl ?_
      refine OKS.m rfl rfl rfl rfl (hS57.ldBA (j := 0) rfl rfl rfl Try.isAgg136 Try.sizeOf136 (vs := List.flatMap encI x39.l) (whole x39 (fun _ => rfl) rfl) (whole_len x39 (fun _ => rfl) rfl)) rfl ?_
      refine OKS.st (j := 1) (vs := List.flatMap encI x39.l) rfl rfl rfl rfl hS57 rfl rfl rfl rfl (fun w => by rw [whole_len (f := encI) (sz := 1) (N := 81) x39 (fun _ => rfl) rfl]; exact Try.sizeOf136 w) (by rw [whole_len (f := encI) (sz := 1) (N := 81) x39 (fun _ => rfl) rfl, whole_len (f := encI) (sz := 1) (N := 81) (Arr.fill 81 0) (fun _ => rfl) rfl]; exact Nat.le_of_ble_eq_true rfl) (all_one_flat (fun _ => rfl) _) (setN_all _ _ (by rw [whole_len (f := encI) (sz := 1) (N := 81) x39 (fun _ => rfl) rfl, whole_len (f := encI) (sz := 1) (N := 81) (Arr.fill 81 0) (fun _ => rfl) rfl])) rfl ?_
      intro W64 hS65
      have hS66 : St ⟨w, [], φ⟩ φ43 [.blk b51 136 (List.flatMap encI x39.l), .blk b2 136 (List.flatMap encI x39.l)] W64 := hS65
      refine OKS.r rfl rfl rfl rfl (fun _ => Runs.as rfl rfl) ?_
      refine OKS.e ?_
      refine thenQ_n ?_
      refine CK.ret ?_
      refine thenQ_r ?_
      cases hm63
      exact ⟨rfl, _, (resLn (rs := [.cell 4 136, .tmp 5]) (vs := [.agg (List.flatMap encI x39.l).toArray, .int .i64 7]) ⟨⟨_, rfl, (ldvarA Try.isAgg136 Try.sizeOf136 (hS66.blkAt (k := 1) rfl) (whole x39 (fun _ => rfl) rfl) (whole_len x39 (fun _ => rfl) rfl))⟩, ⟨rfl, trivial⟩⟩ rfl), φ43, _, (hS66.pick [] _ (by decide) rfl), rfl, rfl⟩
  · have hm67 := hm8; rw [if_neg c16] at hm67; replace c16 := Hid.mk c16
    refine CK.condT (decT c16.out) ?_
    refine CK.seq ?_
    refine CK.reg (ks := []) (.fl 0 (.fl 1 (.fx 2 (.fl 3 (.nil)) .stop))) rfl ?_
    refine OKS.r rfl rfl rfl rfl (fun _ => Runs.to (Runs.buildA (pv := []) (z := [.int .i64 0, .int .i64 0, .int .i64 0, .int .i64 0, .int .i64 0, .int .i64 0, .int .i64 0, .int .i64 0, .int .i64 0, .int .i64 0, .int .i64 0, .int .i64 0, .int .i64 0, .int .i64 0, .int .i64 0, .int .i64 0, .int .i64 0, .int .i64 0, .int .i64 0, .int .i64 0, .int .i64 0, .int .i64 0, .int .i64 0, .int .i64 0, .int .i64 0, .int .i64 0, .int .i64 0, .int .i64 0, .int .i64 0, .int .i64 0, .int .i64 0, .int .i64 0, .int .i64 0, .int .i64 0, .int .i64 0, .int .i64 0, .int .i64 0, .int .i64 0, .int .i64 0, .int .i64 0, .int .i64 0, .int .i64 0, .int .i64 0, .int .i64 0, .int .i64 0, .int .i64 0, .int .i64 0, .int .i64 0, .int .i64 0, .int .i64 0, .int .i64 0, .int .i64 0, .int .i64 0, .int .i64 0, .int .i64 0, .int .i64 0, .int .i64 0, .int .i64 0, .int .i64 0, .int .i64 0, .int .i64 0, .int .i64 0, .int .i64 0, .int .i64 0, .int .i64 0, .int .i64 0, .int .i64 0, .int .i64 0, .int .i64 0, .int .i64 0, .int .i64 0, .int .i64 0, .int .i64 0, .int .i64 0, .int .i64 0, .int .i64 0, .int .i64 0, .int .i64 0, .int .i64 0, .int .i64 0, .int .i64 0]) (cs := [.int .i64 0, .int .i64 0, .int .i64 0, .int .i64 0, .int .i64 0, .int .i64 0, .int .i64 0, .int .i64 0, .int .i64 0, .int .i64 0, .int .i64 0, .int .i64 0, .int .i64 0, .int .i64 0, .int .i64 0, .int .i64 0, .int .i64 0, .int .i64 0, .int .i64 0, .int .i64 0, .int .i64 0, .int .i64 0, .int .i64 0, .int .i64 0, .int .i64 0, .int .i64 0, .int .i64 0, .int .i64 0, .int .i64 0, .int .i64 0, .int .i64 0, .int .i64 0, .int .i64 0, .int .i64 0, .int .i64 0, .int .i64 0, .int .i64 0, .int .i64 0, .int .i64 0, .int .i64 0, .int .i64 0, .int .i64 0, .int .i64 0, .int .i64 0, .int .i64 0, .int .i64 0, .int .i64 0, .int .i64 0, .int .i64 0, .int .i64 0, .int .i64 0, .int .i64 0, .int .i64 0, .int .i64 0, .int .i64 0, .int .i64 0, .int .i64 0, .int .i64 0, .int .i64 0, .int .i64 0, .int .i64 0, .int .i64 0, .int .i64 0, .int .i64 0, .int .i64 0, .int .i64 0, .int .i64 0, .int .i64 0, .int .i64 0, .int .i64 0, .int .i64 0, .int .i64 0, .int .i64 0, .int .i64 0, .int .i64 0, .int .i64 0, .int .i64 0, .int .i64 0, .int .i64 0, .int .i64 0, .int .i64 0]) rfl mapnil2 Try.zeroValue136 Try.runUnderlying136 Try.sizeOf135 rfl rfl) (congrArg (fun l : List Value => Value.agg l.toArray) (show _ = List.flatMap encI (Arr.fill 81 0).l from rfl))) ?_
    refine OKS.r rfl rfl rfl rfl (fun _ => Runs.mv rfl rfl) ?_
    refine OKS.st (j := 0) (vs := List.flatMap encI (Arr.fill 81 0).l) rfl rfl rfl rfl hS15 rfl rfl rfl rfl (fun w => by rw [whole_len (f := encI) (sz := 1) (N := 81) (Arr.fill 81 0) (fun _ => rfl) rfl]; exact Try.sizeOf136 w) (by rw [whole_len (f := encI) (sz := 1) (N := 81) (Arr.fill 81 0) (fun _ => rfl) rfl]; exact Nat.le_of_ble_eq_true rfl) (all_one_flat (fun _ => rfl) _) (setN_all _ _ (by rw [whole_len (f := encI) (sz := 1) (N := 81) (Arr.fill 81 0) (fun _ => rfl) rfl])) rfl ?_
    intro W68 hS69
    have hS70 : St ⟨w, [], φ⟩ φ9 [.blk b2 136 (List.flatMap encI (Arr.fill 81 0).l)] W68 := hS69
    refine OKS.r rfl rfl rfl rfl (fun _ => Runs.as rfl rfl) ?_
    refine OKS.e ?_
    refine thenQ_n ?_
    refine CK.ret ?_
    refine thenQ_r ?_
    cases hm67
    exact ⟨rfl, _, (resLn (rs := [.cell 4 136, .tmp 5]) (vs := [.agg (List.flatMap encI (Arr.fill 81 0).l).toArray, .int .i64 x6]) ⟨⟨_, rfl, (ldvarA Try.isAgg136 Try.sizeOf136 (hS70.blkAt (k := 0) rfl) (whole (Arr.fill 81 0) (fun _ => rfl) rfl) (whole_len (Arr.fill 81 0) (fun _ => rfl) rfl))⟩, ⟨rfl, trivial⟩⟩ rfl), φ9, _, (hS70.pick [] _ (by decide) rfl), rfl, rfl⟩

set_option maxHeartbeats 4000000 in
theorem w_target_Skied (p0 : Int) (p1 : List T_target_Sheet) (pA1 : Option Addr) (pc1 : Nat) (w : World) (φ : PHeap) (hS : St ⟨w, [], φ⟩ φ [] w) (ha0 : Sl φ 4 pA1 pc1 p1.length (List.flatMap encT_target_Sheet p1)) {r : (List T_api_Span) × Int} (hm : m_target_Skied p0 p1 = some r) : Gv Try.prog 21 [.int .i64 p0, .slice pA1 p1.length pc1] w (RetS w [] φ (fun φ_ L_ v => ∃ (A0 : Option Addr) (c0 : Nat), v = .tuple #[.slice A0 r.1.length c0, .int .i64 r.2] ∧ L_ = [.row A0 c0 31 2 (List.flatMap encT_api_Span r.1)])) := by
  unfold m_target_Skied at hm
  refine Gv.of Try.func21 rfl Try.ntmps21 Try.results21 rfl ?_
  refine CK.seq ?_
  refine CK.reg (ks := []) (.fl 0 (.fl 1 (.nil))) rfl ?_
  refine OKS.r rfl rfl rfl rfl (fun _ => Runs.as rfl rfl) ?_
  refine OKS.r rfl rfl rfl rfl (fun _ => Runs.as rfl rfl) ?_
  refine OKS.e ?_
  refine thenQ_n ?_
  refine CK.seq ?_
  refine CK.reg (ks := []) (.fl 0 (.fl 1 (.fx 2 (.fl 3 (.fl 4 (.fl 5 (.fx 6 (.fx 7 (.fl 8 (.nil)) .stop) .stop)))) .stop))) rfl ?_
  refine OKS.r rfl rfl rfl rfl (fun _ => Runs.mv rfl rfl) ?_
  refine OKS.r rfl rfl rfl rfl (fun _ => Runs.mv rfl rfl) ?_
  obtain ⟨⟨x1, x2⟩, h3, hm4⟩ := bnd hm
  try dsimp only at hm4
  refine OKS.callH 0 rfl rfl rfl rfl (Enters.mk rfl rfl Try.call74 (mapcons rfl (mapcons rfl mapnil)) rfl) hS (fun hs => w_target_counted p0 p1 pA1 pc1 w φ hs ha0 h3) (.inr rfl) ?_
  rintro φ5 L6 v7 W8 le9 hS10 ⟨rfl, rfl⟩
  have hS11 : St ⟨w, [], φ⟩ φ5 [] W8 := hS10
  refine OKS.r rfl rfl rfl rfl (fun _ => Runs.mv rfl rfl) ?_
  refine OKS.r rfl rfl rfl rfl (fun _ => Runs.ext rfl rfl (v := .agg (List.flatMap encI x1.l).toArray) rfl) ?_
  refine OKS.r rfl rfl rfl rfl (fun _ => Runs.ext rfl rfl (v := .int .i64 x2) rfl) ?_
  refine OKS.alloc (cs := List.flatMap encI (Arr.fill 81 0).l) rfl rfl rfl rfl rfl Try.zeroValue136 rfl hS11 ?_
  intro W12 b13 hS14
  have hS16 : St ⟨w, [], φ⟩ φ5 [.blk b13 136 (List.flatMap encI (Arr.fill 81 0).l)] W12 := hS14
  refine OKS.st (j := 0) (vs := List.flatMap encI x1.l) rfl rfl rfl rfl hS16 rfl rfl rfl rfl (fun w => by rw [whole_len (f := encI) (sz := 1) (N := 81) x1 (fun _ => rfl) rfl]; exact Try.sizeOf136 w) (by rw [whole_len (f := encI) (sz := 1) (N := 81) x1 (fun _ => rfl) rfl, whole_len (f := encI) (sz := 1) (N := 81) (Arr.fill 81 0) (fun _ => rfl) rfl]; exact Nat.le_of_ble_eq_true rfl) (all_one_flat (fun _ => rfl) _) (setN_all _ _ (by rw [whole_len (f := encI) (sz := 1) (N := 81) x1 (fun _ => rfl) rfl, whole_len (f := encI) (sz := 1) (N := 81) (Arr.fill 81 0) (fun _ => rfl) rfl])) rfl ?_
  intro W17 hS18
  have hS19 : St ⟨w, [], φ⟩ φ5 [.blk b13 136 (List.flatMap encI x1.l)] W17 := hS18
  refine OKS.r rfl rfl rfl rfl (fun _ => Runs.as rfl rfl) ?_
  refine OKS.e ?_
  refine thenQ_n ?_
  refine CK.seq ?_
  refine CK.seq ?_
  refine CK.reg (ks := []) (.fl 0 (.fl 1 (.nil))) rfl ?_
  refine OKS.r rfl rfl rfl rfl (fun _ => Runs.mv rfl rfl) ?_
  refine OKS.r rfl rfl rfl rfl (fun _ => Runs.neq rfl rfl rfl) ?_
  refine OKS.e ?_
  refine thenQ_n ?_
  by_cases c20 : x2 = 0
  · have hm21 := hm4; rw [if_pos c20] at hm21; replace c20 := Hid.mk c20
    refine CK.condF (decF (fun h => h c20.out)) ?_
    refine CK.skip ?_
    refine thenQ_n ?_
    refine CK.seq ?_
    refine CK.reg (ks := []) (.fl 0 (.nil)) rfl ?_
    refine OKS.r rfl rfl rfl rfl (fun _ => Runs.as rfl rfl) ?_
    refine OKS.e ?_
    refine thenQ_n ?_
    refine CK.seq ?_
    refine CK.seq ?_
    refine CK.reg (ks := []) (.fl 0 (.fl 1 (.nil))) rfl ?_
    refine OKS.r rfl rfl rfl rfl (fun _ => Runs.mv rfl rfl) ?_
    refine OKS.r rfl rfl rfl rfl (fun _ => Runs.mv rfl rfl) ?_
    refine OKS.e ?_
    refine thenQ_n ?_
    refine CK.block ?_
    obtain ⟨y44, hf41, hm40⟩ := bnd hm21
    obtain ⟨hle42, hf43⟩ := forR'_le hf41
    replace hle42 := Hid.mk hle42
    refine CK.forN' (fun k39 l35 σ_ w_ => ∃ (φ_ : PHeap) (A36 : Option Addr) (c37 : Nat), σ_ 20 = .int .i64 (↑k39 : Int) ∧ σ_ 6 = .pointer (some ⟨b13, 0, none⟩) ∧ σ_ 8 = .slice A36 l35.length c37 ∧ σ_ 19 = .int .i64 p0 ∧ PHeap.Le φ5 φ_ ∧ St ⟨w, [], φ⟩ φ_ [.blk b13 136 (List.flatMap encI x1.l), .row A36 c37 31 2 (List.flatMap encT_api_Span l35)] w_) hf43 ?_ ?_ ?_
    · have hS45 := hS19.nilrow 31 2
      exact ⟨φ5, none, 0, rfl, rfl, rfl, rfl, (PHeap.Le.refl _), (hS45.pick [1, 0] _ (by decide) rfl)⟩
    · rintro k39 l35 xx49 σ47 W48 hk52 ⟨φ54, A36, c37, fi53, f57, f58, f59, le55, hS56⟩ hx50
      have c60 : Hid ((↑k39 : Int) < p0) := Hid.mk (lp_lt0 hk52)
      replace hk52 := Hid.mk hk52
      have hi61 : Hid (w64 ((↑k39 : Int) + 1) = (↑(k39 + 1) : Int)) := Hid.mk (by have h1 := hle42.out; have h2 := c60.out; rw [w64_in] <;> omega)
      refine CK.seq ?_
      refine CK.reg (ks := []) (.fl 0 (.nil)) rfl ?_
      refine OKS.r rfl rfl rfl rfl (fun _ => Runs.lss rfl fi53 f59) ?_
      refine OKS.e ?_
      refine thenQ_n ?_
      refine CK.seq ?_
      refine CK.condT (decT c60.out) ?_
      refine CK.skip ?_
      refine thenQ_n ?_
      refine CK.seq ?_
      refine CK.block ?_
      refine CK.seq ?_
      refine CK.reg (ks := []) (.fl 0 (.fl 1 (.nil))) rfl ?_
      refine OKS.r rfl rfl rfl rfl (fun _ => Runs.mv rfl fi53) ?_
      refine OKS.r rfl rfl rfl rfl (fun _ => Runs.as rfl rfl) ?_
      refine OKS.e ?_
      refine thenQ_n ?_
      refine CK.anyOrd Try.mixed [3, 3, 3, 3, 3, 3, 1, 3, 3, 3, 3, 3, 3, 1, 3, 2, 0, 3] (.fl 0 (.fl 1 (.fl 2 (.fl 3 (.fl 4 (.fl 5 (.fl 6 (.fl 7 (.fl 8 (.fl 9 (.fl 10 (.fl 11 (.fl 12 (.fl 13 (.fl 14 (.fx 15 (.fx 16 (.fl 17 (.nil)) .stop) .stop)))))))))))))))) (by kernel_rfl) ?_
      have hS62 := hS56.drew
      generalize hw_W63 : ({ W48 with drawn := W48.drawn + 1 } : World) = W63 at hS62 ⊢
      refine OKS.r rfl rfl rfl rfl (fun _ => Runs.mv rfl f58) ?_
      refine OKS.r rfl rfl rfl rfl (fun _ => Runs.mv rfl rfl) ?_
      refine OKS.r rfl rfl rfl rfl (fun _ => Runs.to (Runs.addw rfl rfl rfl) (congrArg (Value.int .i64) hi61.out)) ?_
      refine OKS.r rfl rfl rfl rfl (fun _ => Runs.mv rfl rfl) ?_
      obtain ⟨_, h64, hm65⟩ := bnd hx50
      refine OKS.r rfl rfl rfl rfl (fun _ => Runs.iaA rfl f57 rfl Try.runUnderlying136 Try.sizeOf135 (chk_lo h64) (chk_hi h64)) ?_
      obtain ⟨_, h66, hm67⟩ := bnd hm65
      refine OKS.r rfl rfl rfl rfl (fun _ => Runs.iaA rfl rfl rfl Try.runUnderlying135 Try.sizeOf3 (chk_lo h66) (chk_hi h66)) ?_
      have hg68 := Arr.at_ x1 (k := ((k39 + 1) * 9 + k39)) (by have hz0 := chk_lt h64; have hz1 := chk_lt h66; omega)
      refine OKS.m rfl rfl rfl rfl (hS62.ldB (j := 0) rfl rfl rfl Try.isAgg3 (flatMap_cell (sz := 1) (fun _ => rfl) _ _ 0 _ hg68 (by omega) rfl)) rfl ?_
      refine OKS.r rfl rfl rfl rfl (fun _ => Runs.negw rfl rfl) ?_
      refine OKS.r rfl rfl rfl rfl (fun _ => Runs.mv rfl rfl) ?_
      refine OKS.r rfl rfl rfl rfl (fun _ => Runs.mv rfl rfl) ?_
      refine OKS.r rfl rfl rfl rfl (fun _ => Runs.to (Runs.addw rfl rfl rfl) (congrArg (Value.int .i64) hi61.out)) ?_
      refine OKS.r rfl rfl rfl rfl (fun _ => Runs.iaA rfl f57 rfl Try.runUnderlying136 Try.sizeOf135 (chk_lo h66) (chk_hi h66)) ?_
      refine OKS.r rfl rfl rfl rfl (fun _ => Runs.iaA rfl rfl rfl Try.runUnderlying135 Try.sizeOf3 (chk_lo h64) (chk_hi h64)) ?_
      have hg69 := Arr.at_ x1 (k := (k39 * 9 + (k39 + 1))) (by have hz0 := chk_lt h66; have hz1 := chk_lt h64; omega)
      refine OKS.m rfl rfl rfl rfl (hS62.ldB (j := 0) rfl rfl rfl Try.isAgg3 (flatMap_cell (sz := 1) (fun _ => rfl) _ _ 0 _ hg69 (by omega) rfl)) rfl ?_
      refine OKS.r rfl rfl rfl rfl (fun _ => Runs.build (pv := [(0, .int .i64 (w64 (-(x1.get ((k39 + 1) * 9 + k39))))), (1, .int .i64 (x1.get (k39 * 9 + (k39 + 1))))]) (z := [.int .i64 0, .int .i64 0]) (cs := [.int .i64 (w64 (-(x1.get ((k39 + 1) * 9 + k39)))), .int .i64 (x1.get (k39 * 9 + (k39 + 1)))]) rfl (mapcons2 rfl (mapcons2 rfl mapnil2)) Try.zeroValue31 places31 rfl rfl) ?_
      refine OKS.buildSlice (pv := [(0, .agg #[.int .i64 (w64 (-(x1.get ((k39 + 1) * 9 + k39)))), .int .i64 (x1.get (k39 * 9 + (k39 + 1)))])]) (zs := [.int .i64 0, .int .i64 0]) (cs := [.int .i64 (w64 (-(x1.get ((k39 + 1) * 9 + k39)))), .int .i64 (x1.get (k39 * 9 + (k39 + 1)))]) rfl rfl rfl rfl rfl (mapcons2 rfl mapnil2) Try.runUnderlying38 Try.sizeOf31 Try.zeroValue31 rfl rfl rfl rfl rfl hS62 ?_
      intro W70 b71 hS72
      have hS74 : St ⟨w, [], φ⟩ φ54 [.row (some ⟨b71, 0, none⟩) 1 31 2 (List.flatMap encT_api_Span [(⟨w64 (-(x1.get ((k39 + 1) * 9 + k39))), (x1.get (k39 * 9 + (k39 + 1)))⟩ : T_api_Span)]), .blk b13 136 (List.flatMap encI x1.l), .row A36 c37 31 2 (List.flatMap encT_api_Span l35)] W70 := hS72
      obtain ⟨x75, h76, hm77⟩ := bnd hm67
      refine OKS.append (j := 2) (enc := encT_api_Span) (xs := l35) (ys := [(⟨w64 (-(x1.get ((k39 + 1) * 9 + k39))), (x1.get (k39 * 9 + (k39 + 1)))⟩ : T_api_Span)]) (zs := x75) rfl rfl rfl rfl rfl Try.underlying38 info31 rfl rfl rfl rfl rfl rfl hS74 rfl rfl rfl (hS74.srcR (j := 0) rfl (by decide) (flatMap_len (f := encT_api_Span) (sz := 2) (fun _ => rfl) [(⟨w64 (-(x1.get ((k39 + 1) * 9 + k39))), (x1.get (k39 * 9 + (k39 + 1)))⟩ : T_api_Span)])) (fun _ => rfl) (fun _ => rfl) h76 rfl ?_
      intro A78 c79 W80 hS81
      have hS82 : St ⟨w, [], φ⟩ φ54 [.row (some ⟨b71, 0, none⟩) 1 31 2 (List.flatMap encT_api_Span [(⟨w64 (-(x1.get ((k39 + 1) * 9 + k39))), (x1.get (k39 * 9 + (k39 + 1)))⟩ : T_api_Span)]), .blk b13 136 (List.flatMap encI x1.l), .row A78 c79 31 2 (List.flatMap encT_api_Span x75)] W80 := hS81
      refine OKS.r rfl rfl rfl rfl (fun _ => Runs.as rfl rfl) ?_
      refine OKS.e ?_
      refine blockQ_n ?_
      refine thenQ_n ?_
      refine CK.reg (ks := []) (.fl 0 (.fl 1 (.nil))) rfl ?_
      refine OKS.r rfl rfl rfl rfl (fun _ => Runs.to (Runs.addw rfl fi53 rfl) (congrArg (Value.int .i64) hi61.out)) ?_
      refine OKS.r rfl rfl rfl rfl (fun _ => Runs.mv rfl rfl) ?_
      refine OKS.e ?_
      cases hm77
      exact thenQ_n ⟨rfl, ⟨φ54, A78, c79, rfl, f57, rfl, f59, le55, (hS82.pick [1, 2] _ (by decide) rfl)⟩⟩
    · rintro σ86 W87 ⟨φ95, A93, c94, fi89, f98, f99, f100, le96, hS97⟩
      have c101 : Hid (¬ ((↑((p0 : Int) - 0).toNat : Int) < p0)) := Hid.mk (lp_end0)
      refine CK.seq ?_
      refine CK.reg (ks := []) (.fl 0 (.nil)) rfl ?_
      refine OKS.r rfl rfl rfl rfl (fun _ => Runs.lss rfl fi89 f100) ?_
      refine OKS.e ?_
      refine thenQ_n ?_
      refine CK.seq ?_
      refine CK.condF (decF c101.out) ?_
      refine CK.exit ?_
      refine thenQ_e ?_
      refine thenQ_e ?_
      refine blockQ_h ?_
      refine thenQ_n ?_
      refine CK.seq ?_
      refine CK.reg (ks := []) (.fl 0 (.fl 1 (.fl 2 (.nil)))) rfl ?_
      refine OKS.r rfl rfl rfl rfl (fun _ => Runs.mv rfl f99) ?_
      refine OKS.r rfl rfl rfl rfl (fun _ => Runs.as rfl rfl) ?_
      refine OKS.r rfl rfl rfl rfl (fun _ => Runs.as rfl rfl) ?_
      refine OKS.e ?_
      refine thenQ_n ?_
      refine CK.ret ?_
      cases hm40
      exact ⟨rfl, _, (res2 rfl rfl), φ95, _, (hS97.pick [1] _ (by decide) rfl), A93, c94, rfl, rfl⟩
  · have hm102 := hm4; rw [if_neg c20] at hm102; replace c20 := Hid.mk c20
    refine CK.condT (decT c20.out) ?_
    refine CK.seq ?_
    refine CK.reg (ks := []) (.fl 0 (.fl 1 (.fl 2 (.nil)))) rfl ?_
    refine OKS.r rfl rfl rfl rfl (fun _ => Runs.mv rfl rfl) ?_
    refine OKS.r rfl rfl rfl rfl (fun _ => Runs.as rfl rfl) ?_
    refine OKS.r rfl rfl rfl rfl (fun _ => Runs.as rfl rfl) ?_
    refine OKS.e ?_
    refine thenQ_n ?_
    refine CK.ret ?_
    refine thenQ_r ?_
    have hS103 := hS19.nilrow 31 2
    cases hm102
    exact ⟨rfl, _, (res2 rfl rfl), φ5, _, (hS103.pick [0] _ (by decide) rfl), none, 0, rfl, rfl⟩
end Go.Proofs.Ytnllmignponhdaa
