/- Walks, printed by a program: each function does what its model says. -/
import Derived.Test.YtaoaelhmiggepaaEnc
import Derived.Test.YtaoaelhmiggepaaW0
import Derived.Test.YtaoaelhmiggepaaW1
namespace Go.Proofs.Ytaoaelhmiggepaa
open Go.KL
set_option maxHeartbeats 4000000 in
theorem w_target_distances (p0 : Int) (p1 : List T_target_link) (pA1 : Option Addr) (pc1 : Nat) (w : World) (φ : PHeap) (hS : St ⟨w, [], φ⟩ φ [] w) (ha0 : SlR φ rl134 pA1 pc1 p1) {r : (Arr Int 81) × Bool} (hm : m_target_distances p0 p1 = some r) : Gv Try.prog 65 [.int .i64 p0, .slice pA1 p1.length pc1] w (RetS w [] φ (fun φ_ L_ v => v = .tuple #[.agg (List.flatMap encI r.1.l).toArray, .bool r.2] ∧ L_ = [])) := by
 unfold m_target_distances at hm
 refine Gv.of Try.func65 rfl Try.ntmps65 Try.results65 rfl ?_
 refine CK.seq ?_
 refine CK.reg (ks := []) (.fx 0 (.fl 1 (.nil)) .stop) rfl ?_
 refine OKS.alloc (cs := List.flatMap encI (Arr.fill 81 0).l) rfl rfl rfl rfl rfl Try.zeroValue124 rfl hS ?_
 intro W1 b2 hS3
 have hS5 : St ⟨w, [], φ⟩ φ [.blk b2 124 (List.flatMap encI (Arr.fill 81 0).l)] W1 := hS3
 refine OKS.ra rfl rfl rfl rfl rfl rfl ?_
 refine OKS.e ?_
 refine thenQ_n ?_
 refine CK.seq ?_
 refine CK.reg (ks := []) (.fx 0 (.nil) .stop) rfl ?_
 refine OKS.alloc (cs := List.flatMap encI (Arr.fill 81 0).l) rfl rfl rfl rfl rfl Try.zeroValue124 rfl hS5 ?_
 intro W6 b7 hS8
 have hS10 : St ⟨w, [], φ⟩ φ [.blk b7 124 (List.flatMap encI (Arr.fill 81 0).l), .blk b2 124 (List.flatMap encI (Arr.fill 81 0).l)] W6 := hS8
 refine OKS.e ?_
 refine thenQ_n ?_
 refine CK.seq ?_
 refine CK.seq ?_
 refine CK.reg (ks := []) (.fl 0 (.nil)) rfl ?_
 refine OKS.rm rfl rfl rfl rfl rfl rfl ?_
 refine OKS.e ?_
 refine thenQ_n ?_
 refine CK.block ?_
 have q := bnd hm
 obtain ⟨y22, hf19, hm18⟩ := q
 have q := forR'_le hf19
 obtain ⟨hle20, hf21⟩ := q
 replace hle20 := Hid.mk hle20
 refine CK.forN' (fun k17 a16 σ_ w_ => ∃ (φ_ : PHeap), σ_ 15 = .int .i64 (↑k17 : Int) ∧ σ_ 0 = .int .i64 p0 ∧ σ_ 1 = .slice pA1 p1.length pc1 ∧ σ_ 4 = .pointer (some ⟨b2, 0, none⟩) ∧ σ_ 6 = .pointer (some ⟨b7, 0, none⟩) ∧ PHeap.Le φ φ_ ∧ St ⟨w, [], φ⟩ φ_ [.blk b7 124 (List.flatMap encI a16.l), .blk b2 124 (List.flatMap encI (Arr.fill 81 0).l)] w_) hf21 ?_ ?_ ?_
 ·exact ⟨φ, rfl, rfl, rfl, rfl, rfl, (PHeap.Le.refl _), hS10⟩
 ·rintro k17 a16 xx25 σ23 W24 hk28 ⟨φ30, fi29, f33, f34, f35, f36, le31, hS32⟩ hx26
  have c37 : Hid ((↑k17 : Int) < 9) := Hid.mk (lp_lt0 hk28)
  replace hk28 := Hid.mk hk28
  have hi38 : Hid (w64 ((↑k17 : Int) + 1) = (↑(k17 + 1) : Int)) := Hid.mk (by have h1 := hle20.out; have h2 := c37.out; rw [w64_in] <;> omega)
  refine CK.seq ?_
  refine CK.reg (ks := []) (.fl 0 (.nil)) rfl ?_
  refine OKS.r rfl rfl rfl rfl (fun _ => Runs.lss rfl fi29 rfl) ?_
  refine OKS.e ?_
  refine thenQ_n ?_
  refine CK.seq ?_
  refine CK.condT (decT c37.out) ?_
  refine CK.skip ?_
  refine thenQ_n ?_
  refine CK.seq ?_
  refine CK.block ?_
  refine CK.seq ?_
  refine CK.reg (ks := []) (.fl 0 (.fl 1 (.nil))) rfl ?_
  refine OKS.rm rfl rfl rfl rfl rfl fi29 ?_
  refine OKS.ra rfl rfl rfl rfl rfl rfl ?_
  refine OKS.e ?_
  refine thenQ_n ?_
  refine CK.seq ?_
  refine CK.reg (ks := []) (.fl 0 (.nil)) rfl ?_
  refine OKS.rm rfl rfl rfl rfl rfl rfl ?_
  refine OKS.e ?_
  refine thenQ_n ?_
  refine CK.block ?_
  have q := bnd hx26
  obtain ⟨y50, hf47, hm46⟩ := q
  have q := forR'_le hf47
  obtain ⟨hle48, hf49⟩ := q
  replace hle48 := Hid.mk hle48
  refine CK.forN' (fun k45 a44 σ_ w_ => ∃ (φ_ : PHeap), σ_ 18 = .int .i64 (↑k45 : Int) ∧ σ_ 0 = .int .i64 p0 ∧ σ_ 1 = .slice pA1 p1.length pc1 ∧ σ_ 4 = .pointer (some ⟨b2, 0, none⟩) ∧ σ_ 6 = .pointer (some ⟨b7, 0, none⟩) ∧ σ_ 7 = .int .i64 (↑k17 : Int) ∧ σ_ 15 = .int .i64 (↑k17 : Int) ∧ PHeap.Le φ30 φ_ ∧ St ⟨w, [], φ⟩ φ_ [.blk b7 124 (List.flatMap encI a44.l), .blk b2 124 (List.flatMap encI (Arr.fill 81 0).l)] w_) hf49 ?_ ?_ ?_
  ·exact ⟨φ30, rfl, f33, f34, f35, f36, rfl, fi29, (PHeap.Le.refl _), hS32⟩
  ·rintro k45 a44 xx53 σ51 W52 hk56 ⟨φ58, fi57, f61, f62, f63, f64, f65, f66, le59, hS60⟩ hx54
   have c67 : Hid ((↑k45 : Int) < 9) := Hid.mk (lp_lt0 hk56)
   replace hk56 := Hid.mk hk56
   have hi68 : Hid (w64 ((↑k45 : Int) + 1) = (↑(k45 + 1) : Int)) := Hid.mk (by have h1 := hle48.out; have h2 := c67.out; rw [w64_in] <;> omega)
   refine CK.seq ?_
   refine CK.reg (ks := []) (.fl 0 (.nil)) rfl ?_
   refine OKS.r rfl rfl rfl rfl (fun _ => Runs.lss rfl fi57 rfl) ?_
   refine OKS.e ?_
   refine thenQ_n ?_
   refine CK.seq ?_
   refine CK.condT (decT c67.out) ?_
   refine CK.skip ?_
   refine thenQ_n ?_
   refine CK.seq ?_
   refine CK.block ?_
   refine CK.seq ?_
   refine CK.reg (ks := []) (.fl 0 (.fl 1 (.nil))) rfl ?_
   refine OKS.rm rfl rfl rfl rfl rfl fi57 ?_
   refine OKS.ra rfl rfl rfl rfl rfl rfl ?_
   refine OKS.e ?_
   refine thenQ_n ?_
   refine CK.seq ?_
   refine CK.reg (ks := []) (.fl 0 (.fl 1 (.fl 2 (.nil)))) rfl ?_
   refine OKS.rm rfl rfl rfl rfl rfl f65 ?_
   refine OKS.rm rfl rfl rfl rfl rfl rfl ?_
   refine OKS.r rfl rfl rfl rfl (fun _ => Runs.neq rfl rfl rfl) ?_
   refine OKS.e ?_
   refine thenQ_n ?_
   by_cases c69 : (↑k17 : Int) = (↑k45 : Int)
   ·have hm70 := hx54; rw [if_pos c69] at hm70; replace c69 := Hid.mk c69
    refine CK.condF (decF (fun h => h c69.out)) ?_
    refine CK.skip ?_
    refine blockQ_n ?_
    refine thenQ_n ?_
    refine CK.reg (ks := []) (.fl 0 (.fl 1 (.nil))) rfl ?_
    refine OKS.r rfl rfl rfl rfl (fun _ => Runs.to (Runs.addw rfl fi57 rfl) (congrArg (Value.int .i64) hi68.out)) ?_
    refine OKS.rm rfl rfl rfl rfl rfl rfl ?_
    refine OKS.e ?_
    cases hm70
    exact thenQ_n ⟨rfl, ⟨φ58, rfl, f61, f62, f63, f64, f65, f66, le59, hS60⟩⟩
   ·have hm72 := hx54; rw [if_neg c69] at hm72; replace c69 := Hid.mk c69
    refine CK.condT (decT c69.out) ?_
    refine CK.reg (ks := []) (.fl 0 (.fl 1 (.fl 2 (.fl 3 (.fx 4 (.nil) .stop))))) rfl ?_
    refine OKS.rm rfl rfl rfl rfl rfl f65 ?_
    refine OKS.rm rfl rfl rfl rfl rfl rfl ?_
    have q := bnd hm72
    obtain ⟨_, h73, hm74⟩ := q
    refine OKS.r rfl rfl rfl rfl (fun _ => Runs.iaA rfl f64 rfl Try.runUnderlying124 Try.sizeOf123 (chk_lo h73) (chk_hi h73)) ?_
    have q := bnd hm74
    obtain ⟨_, h75, hm76⟩ := q
    refine OKS.r rfl rfl rfl rfl (fun _ => Runs.iaA rfl rfl rfl Try.runUnderlying123 Try.sizeOf3 (chk_lo h75) (chk_hi h75)) ?_
    have hg77 := Arr.at_ a44 (k := (k17 * 9 + k45)) (by have hz0 := chk_lt h73; have hz1 := chk_lt h75; omega)
    refine OKS.st (j := 0) (vs := [.int .i64 1048576]) (cs' := List.flatMap encI (a44.set (k17 * 9 + k45) 1048576).l) rfl rfl rfl rfl hS60 rfl rfl rfl rfl Try.sizeOf3 (by have hz0 := chk_lt h73; have hz1 := chk_lt h75; simp only [List.length_append, List.length_cons, List.length_nil, whole_len (f := encI) (sz := 1) (N := 81) a44 (fun _ => rfl) rfl]; omega) rfl (setN_at (sz := 1) (fo := 0) (fun _ => rfl) _ _ _ _ hg77 (by first | omega | rfl) (Nat.le_of_ble_eq_true rfl) rfl) rfl ?_
    intro W78 hS79
    have hS80 : St ⟨w, [], φ⟩ φ58 [.blk b7 124 (List.flatMap encI (a44.set (k17 * 9 + k45) 1048576).l), .blk b2 124 (List.flatMap encI (Arr.fill 81 0).l)] W78 := hS79
    refine OKS.e ?_
    refine blockQ_n ?_
    refine thenQ_n ?_
    refine CK.reg (ks := []) (.fl 0 (.fl 1 (.nil))) rfl ?_
    refine OKS.r rfl rfl rfl rfl (fun _ => Runs.to (Runs.addw rfl fi57 rfl) (congrArg (Value.int .i64) hi68.out)) ?_
    refine OKS.rm rfl rfl rfl rfl rfl rfl ?_
    refine OKS.e ?_
    cases hm76
    exact thenQ_n ⟨rfl, ⟨φ58, rfl, f61, f62, f63, f64, f65, f66, le59, hS80⟩⟩
  ·rintro σ82 W83 ⟨φ87, fi85, f90, f91, f92, f93, f94, f95, le88, hS89⟩
   have c96 : Hid (¬ ((↑((9 : Int) - 0).toNat : Int) < 9)) := Hid.mk (lp_end0)
   refine CK.seq ?_
   refine CK.reg (ks := []) (.fl 0 (.nil)) rfl ?_
   refine OKS.r rfl rfl rfl rfl (fun _ => Runs.lss rfl fi85 rfl) ?_
   refine OKS.e ?_
   refine thenQ_n ?_
   refine CK.seq ?_
   refine CK.condF (decF c96.out) ?_
   refine CK.exit ?_
   refine thenQ_e ?_
   refine thenQ_e ?_
   refine blockQ_h ?_
   refine blockQ_n ?_
   refine thenQ_n ?_
   refine CK.reg (ks := []) (.fl 0 (.fl 1 (.nil))) rfl ?_
   refine OKS.r rfl rfl rfl rfl (fun _ => Runs.to (Runs.addw rfl f95 rfl) (congrArg (Value.int .i64) hi38.out)) ?_
   refine OKS.rm rfl rfl rfl rfl rfl rfl ?_
   refine OKS.e ?_
   cases hm46
   exact thenQ_n ⟨rfl, ⟨φ87, rfl, f90, f91, f92, f93, (le31.trans le88), hS89⟩⟩
 ·rintro σ98 W99 ⟨φ103, fi101, f106, f107, f108, f109, le104, hS105⟩
  have c110 : Hid (¬ ((↑((9 : Int) - 0).toNat : Int) < 9)) := Hid.mk (lp_end0)
  refine CK.seq ?_
  refine CK.reg (ks := []) (.fl 0 (.nil)) rfl ?_
  refine OKS.r rfl rfl rfl rfl (fun _ => Runs.lss rfl fi101 rfl) ?_
  refine OKS.e ?_
  refine thenQ_n ?_
  refine CK.seq ?_
  refine CK.condF (decF c110.out) ?_
  refine CK.exit ?_
  refine thenQ_e ?_
  refine thenQ_e ?_
  refine blockQ_h ?_
  refine thenQ_n ?_
  refine CK.seq ?_
  refine CK.seq ?_
  refine CK.reg (ks := []) (.fl 0 (.fl 1 (.fl 2 (.nil)))) rfl ?_
  refine OKS.rm rfl rfl rfl rfl rfl f107 ?_
  refine OKS.r rfl rfl rfl rfl (fun _ => Runs.len rfl rfl Try.runUnderlying127) ?_
  refine OKS.rm rfl rfl rfl rfl rfl rfl ?_
  refine OKS.e ?_
  refine thenQ_n ?_
  refine CK.block ?_
  have q := bnd hm18
  obtain ⟨y122, hf119, hm118⟩ := q
  have q := forR'_le hf119
  obtain ⟨hle120, hf121⟩ := q
  replace hle120 := Hid.mk hle120
  refine CK.forN' (fun k117 a116 σ_ w_ => ∃ (φ_ : PHeap), σ_ 32 = .int .i64 (↑k117 : Int) ∧ σ_ 0 = .int .i64 p0 ∧ σ_ 4 = .pointer (some ⟨b2, 0, none⟩) ∧ σ_ 6 = .pointer (some ⟨b7, 0, none⟩) ∧ σ_ 30 = .slice pA1 p1.length pc1 ∧ σ_ 31 = .int .i64 (↑p1.length : Int) ∧ PHeap.Le φ103 φ_ ∧ St ⟨w, [], φ⟩ φ_ [.blk b7 124 (List.flatMap encI a116.l), .blk b2 124 (List.flatMap encI (Arr.fill 81 0).l)] w_) hf121 ?_ ?_ ?_
  ·exact ⟨φ103, rfl, f106, f108, f109, rfl, rfl, (PHeap.Le.refl _), hS105⟩
  ·rintro k117 a116 xx125 σ123 W124 hk128 ⟨φ130, fi129, f133, f134, f135, f136, f137, le131, hS132⟩ hx126
   have c138 : Hid ((↑k117 : Int) < (↑p1.length : Int)) := Hid.mk (lp_lt0 hk128)
   replace hk128 := Hid.mk hk128
   have hi139 : Hid (w64 ((↑k117 : Int) + 1) = (↑(k117 + 1) : Int)) := Hid.mk (by have h1 := hle120.out; have h2 := c138.out; rw [w64_in] <;> omega)
   refine CK.seq ?_
   refine CK.reg (ks := []) (.fl 0 (.nil)) rfl ?_
   refine OKS.r rfl rfl rfl rfl (fun _ => Runs.lss rfl fi129 f137) ?_
   refine OKS.e ?_
   refine thenQ_n ?_
   refine CK.seq ?_
   refine CK.condT (decT c138.out) ?_
   refine CK.skip ?_
   refine thenQ_n ?_
   refine CK.seq ?_
   refine CK.block ?_
   refine CK.seq ?_
   refine CK.reg (ks := []) (.fl 0 (.fl 1 (.fx 2 (.fx 3 (.nil) .stop) .stop))) rfl ?_
   have q := bnd hx126
   obtain ⟨x140, h141, hm142⟩ := q
   have h143 := ha0.le le104
   have h144 := h143.le le131
   have q := h144.el (idx_get h141)
   obtain ⟨b145, off146, vs149, hA147, hC148, hr150⟩ := q
   obtain ⟨pv151, rfl, h152⟩ := hr150
   replace hC148 : Cl φ130 b145 (off146 + k117 * 5) [.int .i64 x140.Step.Kind, .int .i64 x140.Step.Index, .int .i64 x140.from_, .int .i64 x140.to_, pv151] := hC148
   refine OKS.r rfl rfl rfl rfl (fun _ => Runs.iaN rfl f136 hA147 fi129 Try.runUnderlying127 Try.sizeOf134 (idx_lt h141)) ?_
   refine OKS.m rfl rfl rfl rfl (hS132.ldCA (f := 0) hC148 rfl rfl Try.isAgg134 Try.sizeOf134 (us := [.int .i64 x140.Step.Kind, .int .i64 x140.Step.Index, .int .i64 x140.from_, .int .i64 x140.to_, pv151]) rfl rfl) rfl ?_
   refine OKS.alloc (cs := [.int .i64 0, .int .i64 0, .int .i64 0, .int .i64 0, .nilFunc]) rfl rfl rfl rfl rfl Try.zeroValue134 rfl hS132 ?_
   intro W153 b154 hS155
   have q := id h152
   obtain ⟨fid157, fst158, cap159, he160, _⟩ := q
   subst he160
   refine OKS.st (j := 0) (vs := [.int .i64 x140.Step.Kind, .int .i64 x140.Step.Index, .int .i64 x140.from_, .int .i64 x140.to_, (.func (.func fid157) (List.toArray fst158) (List.toArray cap159))]) rfl rfl rfl rfl hS155 rfl rfl rfl rfl Try.sizeOf134 (Nat.le_of_ble_eq_true rfl) rfl rfl rfl ?_
   intro W161 hS162
   have hS163 : St ⟨w, [], φ⟩ φ130 [.blk b154 134 [.int .i64 x140.Step.Kind, .int .i64 x140.Step.Index, .int .i64 x140.from_, .int .i64 x140.to_, (.func (.func fid157) (List.toArray fst158) (List.toArray cap159))], .blk b7 124 (List.flatMap encI a116.l), .blk b2 124 (List.flatMap encI (Arr.fill 81 0).l)] W161 := hS162
   refine OKS.e ?_
   refine thenQ_n ?_
   refine CK.anyOrd Try.mixed [3, 1, 3, 1, 3, 1, 3, 1, 3, 3, 1, 3, 1, 2, 3, 3, 3, 0] (.fl 0 (.fl 1 (.fl 2 (.fl 3 (.fl 4 (.fl 5 (.fl 6 (.fl 7 (.fl 8 (.fl 9 (.fl 10 (.fl 11 (.fl 12 (.fl 15 (.fx 13 (.fl 14 (.fl 16 (.fx 17 (.nil) .stop))) .stop))))))))))))))) (by kernel_rfl) ?_
   have hS164 := hS163.drew
   generalize hw_W165 : ({ W161 with drawn := W161.drawn + 1 } : World) = W165 at hS164 ⊢
   refine OKS.r rfl rfl rfl rfl (fun _ => Runs.fa rfl rfl Try.runUnderlying134 rfl Try.sizeOf3) ?_
   refine OKS.m rfl rfl rfl rfl (hS164.ldB (j := 0) rfl rfl rfl Try.isAgg3 (v := .int .i64 x140.from_) rfl) rfl ?_
   refine OKS.r rfl rfl rfl rfl (fun _ => Runs.fa rfl rfl Try.runUnderlying134 rfl Try.sizeOf3) ?_
   refine OKS.m rfl rfl rfl rfl (hS164.ldB (j := 0) rfl rfl rfl Try.isAgg3 (v := .int .i64 x140.to_) rfl) rfl ?_
   refine OKS.r rfl rfl rfl rfl (fun _ => Runs.fa rfl rfl Try.runUnderlying134 rfl Try.sizeOf3) ?_
   refine OKS.m rfl rfl rfl rfl (hS164.ldB (j := 0) rfl rfl rfl Try.isAgg3 (v := .int .i64 x140.from_) rfl) rfl ?_
   refine OKS.r rfl rfl rfl rfl (fun _ => Runs.fa rfl rfl Try.runUnderlying134 rfl Try.sizeOf3) ?_
   refine OKS.m rfl rfl rfl rfl (hS164.ldB (j := 0) rfl rfl rfl Try.isAgg3 (v := .int .i64 x140.to_) rfl) rfl ?_
   have q := bnd hm142
   obtain ⟨_, h166, hm167⟩ := q
   refine OKS.r rfl rfl rfl rfl (fun _ => Runs.iaA rfl f135 rfl Try.runUnderlying124 Try.sizeOf123 (chk_lo h166) (chk_hi h166)) ?_
   have q := bnd hm167
   obtain ⟨_, h168, hm169⟩ := q
   refine OKS.r rfl rfl rfl rfl (fun _ => Runs.iaA rfl rfl rfl Try.runUnderlying123 Try.sizeOf3 (chk_lo h168) (chk_hi h168)) ?_
   have hg170 := Arr.at_ a116 (k := (x140.from_.toNat * 9 + x140.to_.toNat)) (by have hz0 := chk_lt h166; have hz1 := chk_lt h168; omega)
   refine OKS.m rfl rfl rfl rfl (hS164.ldB (j := 1) rfl rfl rfl Try.isAgg3 (flatMap_cell (sz := 1) (fun _ => rfl) _ _ 0 _ hg170 (by first | omega | rfl) rfl)) rfl ?_
   refine OKS.r rfl rfl rfl rfl (fun _ => Runs.fa rfl rfl Try.runUnderlying134 rfl Try.sizeOf132) ?_
   refine OKS.m rfl rfl rfl rfl (hS164.ldB (j := 0) rfl rfl rfl Try.isAgg132 (v := (.func (.func fid157) (List.toArray fst158) (List.toArray cap159))) rfl) rfl ?_
   refine OKS.r rfl rfl rfl rfl (fun _ => Runs.iaA rfl f135 rfl Try.runUnderlying124 Try.sizeOf123 (chk_lo h166) (chk_hi h166)) ?_
   have q := bnd hm169
   obtain ⟨x171, h172, hm173⟩ := q
   refine OKS.callV (a := ()) rfl rfl rfl rfl rfl rfl mapnil hS164 h152 rfl h172 ?_
   rintro φ174 L175 v176 W177 le178 hS179 ⟨rfl, rfl⟩
   have hS180 : St ⟨w, [], φ⟩ φ174 [.blk b154 134 [.int .i64 x140.Step.Kind, .int .i64 x140.Step.Index, .int .i64 x140.from_, .int .i64 x140.to_, (.func (.func fid157) (List.toArray fst158) (List.toArray cap159))], .blk b7 124 (List.flatMap encI a116.l), .blk b2 124 (List.flatMap encI (Arr.fill 81 0).l)] W177 := hS179
   refine OKS.r rfl rfl rfl rfl (fun _ => Runs.min rfl rfl rfl) ?_
   refine OKS.r rfl rfl rfl rfl (fun _ => Runs.iaA rfl rfl rfl Try.runUnderlying123 Try.sizeOf3 (chk_lo h168) (chk_hi h168)) ?_
   have hg181 := Arr.at_ a116 (k := (x140.from_.toNat * 9 + x140.to_.toNat)) (by have hz0 := chk_lt h166; have hz1 := chk_lt h168; omega)
   refine OKS.st (j := 1) (vs := [.int .i64 (min (a116.get (x140.from_.toNat * 9 + x140.to_.toNat)) x171)]) (cs' := List.flatMap encI (a116.set (x140.from_.toNat * 9 + x140.to_.toNat) (min (a116.get (x140.from_.toNat * 9 + x140.to_.toNat)) x171)).l) rfl rfl rfl rfl hS180 rfl rfl rfl rfl Try.sizeOf3 (by have hz0 := chk_lt h166; have hz1 := chk_lt h168; simp only [List.length_append, List.length_cons, List.length_nil, whole_len (f := encI) (sz := 1) (N := 81) a116 (fun _ => rfl) rfl]; omega) rfl (setN_at (sz := 1) (fo := 0) (fun _ => rfl) _ _ _ _ hg181 (by first | omega | rfl) (Nat.le_of_ble_eq_true rfl) rfl) rfl ?_
   intro W182 hS183
   have hS184 : St ⟨w, [], φ⟩ φ174 [.blk b154 134 [.int .i64 x140.Step.Kind, .int .i64 x140.Step.Index, .int .i64 x140.from_, .int .i64 x140.to_, (.func (.func fid157) (List.toArray fst158) (List.toArray cap159))], .blk b7 124 (List.flatMap encI (a116.set (x140.from_.toNat * 9 + x140.to_.toNat) (min (a116.get (x140.from_.toNat * 9 + x140.to_.toNat)) x171)).l), .blk b2 124 (List.flatMap encI (Arr.fill 81 0).l)] W182 := hS183
   refine OKS.e ?_
   refine blockQ_n ?_
   refine thenQ_n ?_
   refine CK.reg (ks := []) (.fl 0 (.fl 1 (.nil))) rfl ?_
   refine OKS.r rfl rfl rfl rfl (fun _ => Runs.to (Runs.addw rfl fi129 rfl) (congrArg (Value.int .i64) hi139.out)) ?_
   refine OKS.rm rfl rfl rfl rfl rfl rfl ?_
   refine OKS.e ?_
   cases hm173
   exact thenQ_n ⟨rfl, ⟨φ174, rfl, f133, f134, f135, f136, f137, (le131.trans le178), (hS184.pick [1, 2] _ (by decide) rfl)⟩⟩
  ·rintro σ186 W187 ⟨φ191, fi189, f194, f195, f196, f197, f198, le192, hS193⟩
   have c199 : Hid (¬ ((↑(((↑p1.length : Int) : Int) - 0).toNat : Int) < (↑p1.length : Int))) := Hid.mk (lp_end0)
   refine CK.seq ?_
   refine CK.reg (ks := []) (.fl 0 (.nil)) rfl ?_
   refine OKS.r rfl rfl rfl rfl (fun _ => Runs.lss rfl fi189 f198) ?_
   refine OKS.e ?_
   refine thenQ_n ?_
   refine CK.seq ?_
   refine CK.condF (decF c199.out) ?_
   refine CK.exit ?_
   refine thenQ_e ?_
   refine thenQ_e ?_
   refine blockQ_h ?_
   refine thenQ_n ?_
   refine CK.seq ?_
   refine CK.seq ?_
   refine CK.reg (ks := []) (.fl 0 (.fl 1 (.fl 2 (.nil)))) rfl ?_
   refine OKS.rm rfl rfl rfl rfl rfl f194 ?_
   refine OKS.r rfl rfl rfl rfl (fun _ => Runs.addw rfl rfl rfl) ?_
   refine OKS.rm rfl rfl rfl rfl rfl rfl ?_
   refine OKS.e ?_
   refine thenQ_n ?_
   refine CK.block ?_
   have q := bnd hm118
   obtain ⟨y211, hf208, hm207⟩ := q
   have q := forR'_le hf208
   obtain ⟨hle209, hf210⟩ := q
   replace hle209 := Hid.mk hle209
   refine CK.forN' (fun k206 a205 σ_ w_ => ∃ (φ_ : PHeap), σ_ 56 = .int .i64 (↑k206 : Int) ∧ σ_ 0 = .int .i64 p0 ∧ σ_ 4 = .pointer (some ⟨b2, 0, none⟩) ∧ σ_ 6 = .pointer (some ⟨b7, 0, none⟩) ∧ σ_ 55 = .int .i64 (w64 (p0 + 1)) ∧ PHeap.Le φ191 φ_ ∧ St ⟨w, [], φ⟩ φ_ [.blk b7 124 (List.flatMap encI a205.l), .blk b2 124 (List.flatMap encI (Arr.fill 81 0).l)] w_) hf210 ?_ ?_ ?_
   ·exact ⟨φ191, rfl, f194, f195, f196, rfl, (PHeap.Le.refl _), hS193⟩
   ·rintro k206 a205 xx214 σ212 W213 hk217 ⟨φ219, fi218, f222, f223, f224, f225, le220, hS221⟩ hx215
    have c226 : Hid ((↑k206 : Int) < (w64 (p0 + 1))) := Hid.mk (lp_lt0 hk217)
    replace hk217 := Hid.mk hk217
    have hi227 : Hid (w64 ((↑k206 : Int) + 1) = (↑(k206 + 1) : Int)) := Hid.mk (by have h1 := hle209.out; have h2 := c226.out; rw [w64_in] <;> omega)
    refine CK.seq ?_
    refine CK.reg (ks := []) (.fl 0 (.nil)) rfl ?_
    refine OKS.r rfl rfl rfl rfl (fun _ => Runs.lss rfl fi218 f225) ?_
    refine OKS.e ?_
    refine thenQ_n ?_
    refine CK.seq ?_
    refine CK.condT (decT c226.out) ?_
    refine CK.skip ?_
    refine thenQ_n ?_
    refine CK.seq ?_
    refine CK.block ?_
    refine CK.seq ?_
    refine CK.reg (ks := []) (.fl 0 (.fl 1 (.nil))) rfl ?_
    refine OKS.rm rfl rfl rfl rfl rfl fi218 ?_
    refine OKS.ra rfl rfl rfl rfl rfl rfl ?_
    refine OKS.e ?_
    refine thenQ_n ?_
    refine CK.seq ?_
    refine CK.reg (ks := []) (.fl 0 (.fl 1 (.fl 2 (.nil)))) rfl ?_
    refine OKS.rm rfl rfl rfl rfl rfl f222 ?_
    refine OKS.r rfl rfl rfl rfl (fun _ => Runs.addw rfl rfl rfl) ?_
    refine OKS.rm rfl rfl rfl rfl rfl rfl ?_
    refine OKS.e ?_
    refine thenQ_n ?_
    refine CK.block ?_
    have q := bnd hx215
    obtain ⟨y239, hf236, hm235⟩ := q
    have q := forR'_le hf236
    obtain ⟨hle237, hf238⟩ := q
    replace hle237 := Hid.mk hle237
    refine CK.forN' (fun k234 a233 σ_ w_ => ∃ (φ_ : PHeap), σ_ 61 = .int .i64 (↑k234 : Int) ∧ σ_ 0 = .int .i64 p0 ∧ σ_ 4 = .pointer (some ⟨b2, 0, none⟩) ∧ σ_ 6 = .pointer (some ⟨b7, 0, none⟩) ∧ σ_ 11 = .int .i64 (↑k206 : Int) ∧ σ_ 55 = .int .i64 (w64 (p0 + 1)) ∧ σ_ 56 = .int .i64 (↑k206 : Int) ∧ σ_ 60 = .int .i64 (w64 (p0 + 1)) ∧ PHeap.Le φ219 φ_ ∧ St ⟨w, [], φ⟩ φ_ [.blk b7 124 (List.flatMap encI a233.l), .blk b2 124 (List.flatMap encI (Arr.fill 81 0).l)] w_) hf238 ?_ ?_ ?_
    ·exact ⟨φ219, rfl, f222, f223, f224, rfl, f225, fi218, rfl, (PHeap.Le.refl _), hS221⟩
    ·rintro k234 a233 xx242 σ240 W241 hk245 ⟨φ247, fi246, f250, f251, f252, f253, f254, f255, f256, le248, hS249⟩ hx243
     have c257 : Hid ((↑k234 : Int) < (w64 (p0 + 1))) := Hid.mk (lp_lt0 hk245)
     replace hk245 := Hid.mk hk245
     have hi258 : Hid (w64 ((↑k234 : Int) + 1) = (↑(k234 + 1) : Int)) := Hid.mk (by have h1 := hle237.out; have h2 := c257.out; rw [w64_in] <;> omega)
     refine CK.seq ?_
     refine CK.reg (ks := []) (.fl 0 (.nil)) rfl ?_
     refine OKS.r rfl rfl rfl rfl (fun _ => Runs.lss rfl fi246 f256) ?_
     refine OKS.e ?_
     refine thenQ_n ?_
     refine CK.seq ?_
     refine CK.condT (decT c257.out) ?_
     refine CK.skip ?_
     refine thenQ_n ?_
     refine CK.seq ?_
     refine CK.block ?_
     refine CK.seq ?_
     refine CK.reg (ks := []) (.fl 0 (.fl 1 (.nil))) rfl ?_
     refine OKS.rm rfl rfl rfl rfl rfl fi246 ?_
     refine OKS.ra rfl rfl rfl rfl rfl rfl ?_
     refine OKS.e ?_
     refine thenQ_n ?_
     refine CK.seq ?_
     refine CK.reg (ks := []) (.fl 0 (.fl 1 (.fl 2 (.nil)))) rfl ?_
     refine OKS.rm rfl rfl rfl rfl rfl f250 ?_
     refine OKS.r rfl rfl rfl rfl (fun _ => Runs.addw rfl rfl rfl) ?_
     refine OKS.rm rfl rfl rfl rfl rfl rfl ?_
     refine OKS.e ?_
     refine thenQ_n ?_
     refine CK.block ?_
     have q := bnd hx243
     obtain ⟨y270, hf267, hm266⟩ := q
     have q := forR'_le hf267
     obtain ⟨hle268, hf269⟩ := q
     replace hle268 := Hid.mk hle268
     refine CK.forN' (fun k265 a264 σ_ w_ => ∃ (φ_ : PHeap), σ_ 66 = .int .i64 (↑k265 : Int) ∧ σ_ 0 = .int .i64 p0 ∧ σ_ 4 = .pointer (some ⟨b2, 0, none⟩) ∧ σ_ 6 = .pointer (some ⟨b7, 0, none⟩) ∧ σ_ 11 = .int .i64 (↑k206 : Int) ∧ σ_ 12 = .int .i64 (↑k234 : Int) ∧ σ_ 55 = .int .i64 (w64 (p0 + 1)) ∧ σ_ 56 = .int .i64 (↑k206 : Int) ∧ σ_ 60 = .int .i64 (w64 (p0 + 1)) ∧ σ_ 61 = .int .i64 (↑k234 : Int) ∧ σ_ 65 = .int .i64 (w64 (p0 + 1)) ∧ PHeap.Le φ247 φ_ ∧ St ⟨w, [], φ⟩ φ_ [.blk b7 124 (List.flatMap encI a264.l), .blk b2 124 (List.flatMap encI (Arr.fill 81 0).l)] w_) hf269 ?_ ?_ ?_
     ·exact ⟨φ247, rfl, f250, f251, f252, f253, rfl, f254, f255, f256, fi246, rfl, (PHeap.Le.refl _), hS249⟩
     ·rintro k265 a264 xx273 σ271 W272 hk276 ⟨φ278, fi277, f281, f282, f283, f284, f285, f286, f287, f288, f289, f290, le279, hS280⟩ hx274
      have c291 : Hid ((↑k265 : Int) < (w64 (p0 + 1))) := Hid.mk (lp_lt0 hk276)
      replace hk276 := Hid.mk hk276
      have hi292 : Hid (w64 ((↑k265 : Int) + 1) = (↑(k265 + 1) : Int)) := Hid.mk (by have h1 := hle268.out; have h2 := c291.out; rw [w64_in] <;> omega)
      refine CK.seq ?_
      refine CK.reg (ks := []) (.fl 0 (.nil)) rfl ?_
      refine OKS.r rfl rfl rfl rfl (fun _ => Runs.lss rfl fi277 f290) ?_
      refine OKS.e ?_
      refine thenQ_n ?_
      refine CK.seq ?_
      refine CK.condT (decT c291.out) ?_
      refine CK.skip ?_
      refine thenQ_n ?_
      refine CK.seq ?_
      refine CK.block ?_
      refine CK.seq ?_
      refine CK.reg (ks := []) (.fl 0 (.fl 1 (.nil))) rfl ?_
      refine OKS.rm rfl rfl rfl rfl rfl fi277 ?_
      refine OKS.ra rfl rfl rfl rfl rfl rfl ?_
      refine OKS.e ?_
      refine thenQ_n ?_
      refine CK.anyOrd Try.mixed [3, 3, 3, 3, 3, 3, 1, 3, 3, 3, 3, 1, 3, 3, 3, 3, 1, 3, 3, 3, 3, 0] (.fl 0 (.fl 1 (.fl 2 (.fl 3 (.fl 4 (.fl 5 (.fl 6 (.fl 7 (.fl 8 (.fl 9 (.fl 10 (.fl 11 (.fl 12 (.fl 13 (.fl 14 (.fl 15 (.fl 16 (.fl 17 (.fl 18 (.fl 19 (.fl 20 (.fx 21 (.nil) .stop)))))))))))))))))))))) (by kernel_rfl) ?_
      have hS293 := hS280.drew
      generalize hw_W294 : ({ W272 with drawn := W272.drawn + 1 } : World) = W294 at hS293 ⊢
      refine OKS.rm rfl rfl rfl rfl rfl f285 ?_
      refine OKS.rm rfl rfl rfl rfl rfl rfl ?_
      refine OKS.rm rfl rfl rfl rfl rfl f285 ?_
      refine OKS.rm rfl rfl rfl rfl rfl rfl ?_
      have q := bnd hx274
      obtain ⟨_, h295, hm296⟩ := q
      refine OKS.r rfl rfl rfl rfl (fun _ => Runs.iaA rfl f283 rfl Try.runUnderlying124 Try.sizeOf123 (chk_lo h295) (chk_hi h295)) ?_
      have q := bnd hm296
      obtain ⟨_, h297, hm298⟩ := q
      refine OKS.r rfl rfl rfl rfl (fun _ => Runs.iaA rfl rfl rfl Try.runUnderlying123 Try.sizeOf3 (chk_lo h297) (chk_hi h297)) ?_
      have hg299 := Arr.at_ a264 (k := (k234 * 9 + k265)) (by have hz0 := chk_lt h295; have hz1 := chk_lt h297; omega)
      refine OKS.m rfl rfl rfl rfl (hS293.ldB (j := 0) rfl rfl rfl Try.isAgg3 (flatMap_cell (sz := 1) (fun _ => rfl) _ _ 0 _ hg299 (by first | omega | rfl) rfl)) rfl ?_
      refine OKS.rm rfl rfl rfl rfl rfl f285 ?_
      refine OKS.rm rfl rfl rfl rfl rfl f284 ?_
      refine OKS.r rfl rfl rfl rfl (fun _ => Runs.iaA rfl f283 rfl Try.runUnderlying124 Try.sizeOf123 (chk_lo h295) (chk_hi h295)) ?_
      have q := bnd hm298
      obtain ⟨_, h300, hm301⟩ := q
      refine OKS.r rfl rfl rfl rfl (fun _ => Runs.iaA rfl rfl rfl Try.runUnderlying123 Try.sizeOf3 (chk_lo h300) (chk_hi h300)) ?_
      have hg302 := Arr.at_ a264 (k := (k234 * 9 + k206)) (by have hz0 := chk_lt h295; have hz1 := chk_lt h300; omega)
      refine OKS.m rfl rfl rfl rfl (hS293.ldB (j := 0) rfl rfl rfl Try.isAgg3 (flatMap_cell (sz := 1) (fun _ => rfl) _ _ 0 _ hg302 (by first | omega | rfl) rfl)) rfl ?_
      refine OKS.rm rfl rfl rfl rfl rfl f284 ?_
      refine OKS.rm rfl rfl rfl rfl rfl rfl ?_
      refine OKS.r rfl rfl rfl rfl (fun _ => Runs.iaA rfl f283 rfl Try.runUnderlying124 Try.sizeOf123 (chk_lo h300) (chk_hi h300)) ?_
      refine OKS.r rfl rfl rfl rfl (fun _ => Runs.iaA rfl rfl rfl Try.runUnderlying123 Try.sizeOf3 (chk_lo h297) (chk_hi h297)) ?_
      have hg303 := Arr.at_ a264 (k := (k206 * 9 + k265)) (by have hz0 := chk_lt h300; have hz1 := chk_lt h297; omega)
      refine OKS.m rfl rfl rfl rfl (hS293.ldB (j := 0) rfl rfl rfl Try.isAgg3 (flatMap_cell (sz := 1) (fun _ => rfl) _ _ 0 _ hg303 (by first | omega | rfl) rfl)) rfl ?_
      refine OKS.r rfl rfl rfl rfl (fun _ => Runs.addw rfl rfl rfl) ?_
      refine OKS.r rfl rfl rfl rfl (fun _ => Runs.min rfl rfl rfl) ?_
      refine OKS.r rfl rfl rfl rfl (fun _ => Runs.iaA rfl f283 rfl Try.runUnderlying124 Try.sizeOf123 (chk_lo h295) (chk_hi h295)) ?_
      refine OKS.r rfl rfl rfl rfl (fun _ => Runs.iaA rfl rfl rfl Try.runUnderlying123 Try.sizeOf3 (chk_lo h297) (chk_hi h297)) ?_
      have hg304 := Arr.at_ a264 (k := (k234 * 9 + k265)) (by have hz0 := chk_lt h295; have hz1 := chk_lt h297; omega)
      refine OKS.st (j := 0) (vs := [.int .i64 (min (a264.get (k234 * 9 + k265)) (w64 ((a264.get (k234 * 9 + k206)) + (a264.get (k206 * 9 + k265)))))]) (cs' := List.flatMap encI (a264.set (k234 * 9 + k265) (min (a264.get (k234 * 9 + k265)) (w64 ((a264.get (k234 * 9 + k206)) + (a264.get (k206 * 9 + k265)))))).l) rfl rfl rfl rfl hS293 rfl rfl rfl rfl Try.sizeOf3 (by have hz0 := chk_lt h295; have hz1 := chk_lt h297; simp only [List.length_append, List.length_cons, List.length_nil, whole_len (f := encI) (sz := 1) (N := 81) a264 (fun _ => rfl) rfl]; omega) rfl (setN_at (sz := 1) (fo := 0) (fun _ => rfl) _ _ _ _ hg304 (by first | omega | rfl) (Nat.le_of_ble_eq_true rfl) rfl) rfl ?_
      intro W305 hS306
      have hS307 : St ⟨w, [], φ⟩ φ278 [.blk b7 124 (List.flatMap encI (a264.set (k234 * 9 + k265) (min (a264.get (k234 * 9 + k265)) (w64 ((a264.get (k234 * 9 + k206)) + (a264.get (k206 * 9 + k265)))))).l), .blk b2 124 (List.flatMap encI (Arr.fill 81 0).l)] W305 := hS306
      refine OKS.e ?_
      refine blockQ_n ?_
      refine thenQ_n ?_
      refine CK.reg (ks := []) (.fl 0 (.fl 1 (.nil))) rfl ?_
      refine OKS.r rfl rfl rfl rfl (fun _ => Runs.to (Runs.addw rfl fi277 rfl) (congrArg (Value.int .i64) hi292.out)) ?_
      refine OKS.rm rfl rfl rfl rfl rfl rfl ?_
      refine OKS.e ?_
      cases hm301
      exact thenQ_n ⟨rfl, ⟨φ278, rfl, f281, f282, f283, f284, f285, f286, f287, f288, f289, f290, le279, hS307⟩⟩
     ·rintro σ309 W310 ⟨φ314, fi312, f317, f318, f319, f320, f321, f322, f323, f324, f325, f326, le315, hS316⟩
      have c327 : Hid (¬ ((↑((w64 (p0 + 1) : Int) - 0).toNat : Int) < (w64 (p0 + 1)))) := Hid.mk (lp_end0)
      refine CK.seq ?_
      refine CK.reg (ks := []) (.fl 0 (.nil)) rfl ?_
      refine OKS.r rfl rfl rfl rfl (fun _ => Runs.lss rfl fi312 f326) ?_
      refine OKS.e ?_
      refine thenQ_n ?_
      refine CK.seq ?_
      refine CK.condF (decF c327.out) ?_
      refine CK.exit ?_
      refine thenQ_e ?_
      refine thenQ_e ?_
      refine blockQ_h ?_
      refine blockQ_n ?_
      refine thenQ_n ?_
      refine CK.reg (ks := []) (.fl 0 (.fl 1 (.nil))) rfl ?_
      refine OKS.r rfl rfl rfl rfl (fun _ => Runs.to (Runs.addw rfl f325 rfl) (congrArg (Value.int .i64) hi258.out)) ?_
      refine OKS.rm rfl rfl rfl rfl rfl rfl ?_
      refine OKS.e ?_
      cases hm266
      exact thenQ_n ⟨rfl, ⟨φ314, rfl, f317, f318, f319, f320, f322, f323, f324, (le248.trans le315), hS316⟩⟩
    ·rintro σ329 W330 ⟨φ334, fi332, f337, f338, f339, f340, f341, f342, f343, le335, hS336⟩
     have c344 : Hid (¬ ((↑((w64 (p0 + 1) : Int) - 0).toNat : Int) < (w64 (p0 + 1)))) := Hid.mk (lp_end0)
     refine CK.seq ?_
     refine CK.reg (ks := []) (.fl 0 (.nil)) rfl ?_
     refine OKS.r rfl rfl rfl rfl (fun _ => Runs.lss rfl fi332 f343) ?_
     refine OKS.e ?_
     refine thenQ_n ?_
     refine CK.seq ?_
     refine CK.condF (decF c344.out) ?_
     refine CK.exit ?_
     refine thenQ_e ?_
     refine thenQ_e ?_
     refine blockQ_h ?_
     refine blockQ_n ?_
     refine thenQ_n ?_
     refine CK.reg (ks := []) (.fl 0 (.fl 1 (.nil))) rfl ?_
     refine OKS.r rfl rfl rfl rfl (fun _ => Runs.to (Runs.addw rfl f342 rfl) (congrArg (Value.int .i64) hi227.out)) ?_
     refine OKS.rm rfl rfl rfl rfl rfl rfl ?_
     refine OKS.e ?_
     cases hm235
     exact thenQ_n ⟨rfl, ⟨φ334, rfl, f337, f338, f339, f341, (le220.trans le335), hS336⟩⟩
   ·rintro σ346 W347 ⟨φ351, fi349, f354, f355, f356, f357, le352, hS353⟩
    have c358 : Hid (¬ ((↑((w64 (p0 + 1) : Int) - 0).toNat : Int) < (w64 (p0 + 1)))) := Hid.mk (lp_end0)
    refine CK.seq ?_
    refine CK.reg (ks := []) (.fl 0 (.nil)) rfl ?_
    refine OKS.r rfl rfl rfl rfl (fun _ => Runs.lss rfl fi349 f357) ?_
    refine OKS.e ?_
    refine thenQ_n ?_
    refine CK.seq ?_
    refine CK.condF (decF c358.out) ?_
    refine CK.exit ?_
    refine thenQ_e ?_
    refine thenQ_e ?_
    refine blockQ_h ?_
    refine thenQ_n ?_
    refine CK.seq ?_
    refine CK.seq ?_
    refine CK.reg (ks := []) (.fl 0 (.fl 1 (.fl 2 (.nil)))) rfl ?_
    refine OKS.rm rfl rfl rfl rfl rfl f354 ?_
    refine OKS.r rfl rfl rfl rfl (fun _ => Runs.addw rfl rfl rfl) ?_
    refine OKS.rm rfl rfl rfl rfl rfl rfl ?_
    refine OKS.e ?_
    refine thenQ_n ?_
    refine CK.block ?_
    have q := jn_some hm207
    obtain ⟨r361, hX362⟩ := q
    have q := forR_le hX362
    obtain ⟨hle363, hf364⟩ := q
    replace hle363 := Hid.mk hle363
    refine CK.forN (fun k360 _ σ_ w_ => ∃ (φ_ : PHeap), σ_ 95 = .int .i64 (↑k360 : Int) ∧ σ_ 4 = .pointer (some ⟨b2, 0, none⟩) ∧ σ_ 6 = .pointer (some ⟨b7, 0, none⟩) ∧ σ_ 94 = .int .i64 (w64 (p0 + 1)) ∧ PHeap.Le φ351 φ_ ∧ St ⟨w, [], φ⟩ φ_ [.blk b7 124 (List.flatMap encI y211.l), .blk b2 124 (List.flatMap encI (Arr.fill 81 0).l)] w_) hf364 ?_ ?_ ?_
    ·exact ⟨φ351, rfl, f355, f356, rfl, (PHeap.Le.refl _), hS353⟩
    ·rintro k360 ⟨⟩ xx367 σ365 W366 hk370 ⟨φ372, fi371, f375, f376, f377, le373, hS374⟩ hx368 hb369
     try dsimp only at hx368
     have c378 : Hid ((↑k360 : Int) < (w64 (p0 + 1))) := Hid.mk (lp_lt0 hk370)
     replace hk370 := Hid.mk hk370
     have hi379 : Hid (w64 ((↑k360 : Int) + 1) = (↑(k360 + 1) : Int)) := Hid.mk (by have h1 := hle363.out; have h2 := c378.out; rw [w64_in] <;> omega)
     refine CK.seq ?_
     refine CK.reg (ks := []) (.fl 0 (.nil)) rfl ?_
     refine OKS.r rfl rfl rfl rfl (fun _ => Runs.lss rfl fi371 f377) ?_
     refine OKS.e ?_
     refine thenQ_n ?_
     refine CK.seq ?_
     refine CK.condT (decT c378.out) ?_
     refine CK.skip ?_
     refine thenQ_n ?_
     refine CK.seq ?_
     refine CK.block ?_
     refine CK.seq ?_
     refine CK.reg (ks := []) (.fl 0 (.fl 1 (.nil))) rfl ?_
     refine OKS.rm rfl rfl rfl rfl rfl fi371 ?_
     refine OKS.ra rfl rfl rfl rfl rfl rfl ?_
     refine OKS.e ?_
     refine thenQ_n ?_
     refine CK.seq ?_
     refine CK.reg (ks := []) (.fl 0 (.fl 1 (.fl 2 (.fl 3 (.fl 4 (.fl 5 (.nil))))))) rfl ?_
     refine OKS.rm rfl rfl rfl rfl rfl rfl ?_
     refine OKS.rm rfl rfl rfl rfl rfl rfl ?_
     have q := bnd hx368
     obtain ⟨_, h380, hm381⟩ := q
     refine OKS.r rfl rfl rfl rfl (fun _ => Runs.iaA rfl f376 rfl Try.runUnderlying124 Try.sizeOf123 (chk_lo h380) (chk_hi h380)) ?_
     refine OKS.r rfl rfl rfl rfl (fun _ => Runs.iaA rfl rfl rfl Try.runUnderlying123 Try.sizeOf3 (chk_lo h380) (chk_hi h380)) ?_
     have hg382 := Arr.at_ y211 (k := (k360 * 9 + k360)) (by have hz0 := chk_lt h380; have hz1 := chk_lt h380; omega)
     refine OKS.m rfl rfl rfl rfl (hS374.ldB (j := 0) rfl rfl rfl Try.isAgg3 (flatMap_cell (sz := 1) (fun _ => rfl) _ _ 0 _ hg382 (by first | omega | rfl) rfl)) rfl ?_
     refine OKS.r rfl rfl rfl rfl (fun _ => Runs.lss rfl rfl rfl) ?_
     refine OKS.e ?_
     refine thenQ_n ?_
     by_cases c383 : (y211.get (k360 * 9 + k360)) < 0
     ·have hm384 := hm381; rw [if_pos c383] at hm384; replace c383 := Hid.mk c383
      refine CK.condT (decT c383.out) ?_
      refine CK.seq ?_
      refine CK.reg (ks := []) (.fl 0 (.fx 1 (.fl 2 (.nil)) .stop)) rfl ?_
      refine OKS.m rfl rfl rfl rfl (hS374.ldBA (j := 0) rfl rfl f376 Try.isAgg124 Try.sizeOf124 (vs := List.flatMap encI y211.l) (whole y211 (fun _ => rfl) rfl) (whole_len y211 (fun _ => rfl) rfl)) rfl ?_
      refine OKS.st (j := 1) (vs := List.flatMap encI y211.l) rfl rfl rfl rfl hS374 rfl f375 rfl rfl (fun w => by rw [whole_len (f := encI) (sz := 1) (N := 81) y211 (fun _ => rfl) rfl]; exact Try.sizeOf124 w) (by rw [whole_len (f := encI) (sz := 1) (N := 81) y211 (fun _ => rfl) rfl, whole_len (f := encI) (sz := 1) (N := 81) (Arr.fill 81 0) (fun _ => rfl) rfl]; exact Nat.le_of_ble_eq_true rfl) (all_one_flat (fun _ => rfl) _) (setN_all _ _ (by rw [whole_len (f := encI) (sz := 1) (N := 81) y211 (fun _ => rfl) rfl, whole_len (f := encI) (sz := 1) (N := 81) (Arr.fill 81 0) (fun _ => rfl) rfl])) rfl ?_
      intro W385 hS386
      have hS387 : St ⟨w, [], φ⟩ φ372 [.blk b7 124 (List.flatMap encI y211.l), .blk b2 124 (List.flatMap encI y211.l)] W385 := hS386
      refine OKS.ra rfl rfl rfl rfl rfl rfl ?_
      refine OKS.e ?_
      refine thenQ_n ?_
      refine CK.ret ?_
      refine blockQ_r ?_
      refine thenQ_r ?_
      have q := esc_spec hm384
      obtain ⟨v388, hm389, e390⟩ := q
      obtain rfl := jn_inr hm207 hX362 (hb369 v388 e390)
      refine thenQ_r ?_
      refine blockQ_r ?_
      refine thenQ_r ?_
      cases hm389
      exact ⟨rfl, _, (resLn (rs := [.cell 4 124, .tmp 5]) (vs := [.agg (List.flatMap encI y211.l).toArray, .bool false]) ⟨⟨_, f375, (ldvarA Try.isAgg124 Try.sizeOf124 (hS387.blkAt (k := 1) rfl) (whole y211 (fun _ => rfl) rfl) (whole_len y211 (fun _ => rfl) rfl))⟩, ⟨rfl, trivial⟩⟩ rfl), φ372, _, (hS387.pick [] _ (by decide) rfl), rfl, rfl⟩
     ·have hm391 := hm381; rw [if_neg c383] at hm391; replace c383 := Hid.mk c383
      refine CK.condF (decF c383.out) ?_
      refine CK.skip ?_
      refine blockQ_n ?_
      refine thenQ_n ?_
      refine CK.reg (ks := []) (.fl 0 (.fl 1 (.nil))) rfl ?_
      refine OKS.r rfl rfl rfl rfl (fun _ => Runs.to (Runs.addw rfl fi371 rfl) (congrArg (Value.int .i64) hi379.out)) ?_
      refine OKS.rm rfl rfl rfl rfl rfl rfl ?_
      refine OKS.e ?_
      obtain rfl := Option.some.inj hm391
      exact thenQ_n ⟨rfl, _, rfl, ⟨φ372, rfl, f375, f376, f377, le373, hS374⟩⟩
    ·rintro ⟨⟩ σ392 W393 ⟨φ396, fi395, f399, f400, f401, le397, hS398⟩ hb394
     have hm402 := jn_inl hm207 hX362 hb394
     try dsimp only at hm402
     have c403 : Hid (¬ ((↑((w64 (p0 + 1) : Int) - 0).toNat : Int) < (w64 (p0 + 1)))) := Hid.mk (lp_end0)
     refine CK.seq ?_
     refine CK.reg (ks := []) (.fl 0 (.nil)) rfl ?_
     refine OKS.r rfl rfl rfl rfl (fun _ => Runs.lss rfl fi395 f401) ?_
     refine OKS.e ?_
     refine thenQ_n ?_
     refine CK.seq ?_
     refine CK.condF (decF c403.out) ?_
     refine CK.exit ?_
     refine thenQ_e ?_
     refine thenQ_e ?_
     refine blockQ_h ?_
     refine thenQ_n ?_
     refine CK.seq ?_
     refine CK.reg (ks := []) (.fl 0 (.fx 1 (.fl 2 (.nil)) .stop)) rfl ?_
     refine OKS.m rfl rfl rfl rfl (hS398.ldBA (j := 0) rfl rfl f400 Try.isAgg124 Try.sizeOf124 (vs := List.flatMap encI y211.l) (whole y211 (fun _ => rfl) rfl) (whole_len y211 (fun _ => rfl) rfl)) rfl ?_
     refine OKS.st (j := 1) (vs := List.flatMap encI y211.l) rfl rfl rfl rfl hS398 rfl f399 rfl rfl (fun w => by rw [whole_len (f := encI) (sz := 1) (N := 81) y211 (fun _ => rfl) rfl]; exact Try.sizeOf124 w) (by rw [whole_len (f := encI) (sz := 1) (N := 81) y211 (fun _ => rfl) rfl, whole_len (f := encI) (sz := 1) (N := 81) (Arr.fill 81 0) (fun _ => rfl) rfl]; exact Nat.le_of_ble_eq_true rfl) (all_one_flat (fun _ => rfl) _) (setN_all _ _ (by rw [whole_len (f := encI) (sz := 1) (N := 81) y211 (fun _ => rfl) rfl, whole_len (f := encI) (sz := 1) (N := 81) (Arr.fill 81 0) (fun _ => rfl) rfl])) rfl ?_
     intro W404 hS405
     have hS406 : St ⟨w, [], φ⟩ φ396 [.blk b7 124 (List.flatMap encI y211.l), .blk b2 124 (List.flatMap encI y211.l)] W404 := hS405
     refine OKS.ra rfl rfl rfl rfl rfl rfl ?_
     refine OKS.e ?_
     refine thenQ_n ?_
     refine CK.ret ?_
     cases hm402
     exact ⟨rfl, _, (resLn (rs := [.cell 4 124, .tmp 5]) (vs := [.agg (List.flatMap encI y211.l).toArray, .bool true]) ⟨⟨_, f399, (ldvarA Try.isAgg124 Try.sizeOf124 (hS406.blkAt (k := 1) rfl) (whole y211 (fun _ => rfl) rfl) (whole_len y211 (fun _ => rfl) rfl))⟩, ⟨rfl, trivial⟩⟩ rfl), φ396, _, (hS406.pick [] _ (by decide) rfl), rfl, rfl⟩

set_option maxHeartbeats 4000000 in
theorem w_target_Few (p0 : List Int) (pA0 : Option Addr) (pc0 : Nat) (p1 : List T_target_Sheet) (pA1 : Option Addr) (pc1 : Nat) (w : World) (φ : PHeap) (hS : St ⟨w, [], φ⟩ φ [] w) (ha0 : Sl φ 1 pA0 pc0 p0.length (List.flatMap encI p0)) (ha1 : Sl φ 4 pA1 pc1 p1.length (List.flatMap encT_target_Sheet p1)) {r : Bool × Int} (hm : m_target_Few p0 p1 = some r) : Gv Try.prog 15 [.slice pA0 p0.length pc0, .slice pA1 p1.length pc1] w (RetS w [] φ (fun φ_ L_ v => v = .tuple #[.bool r.1, .int .i64 r.2] ∧ L_ = [])) := by
 unfold m_target_Few at hm
 refine Gv.of Try.func15 rfl Try.ntmps15 Try.results15 rfl ?_
 refine CK.seq ?_
 refine CK.reg (ks := []) (.fl 0 (.fl 1 (.nil))) rfl ?_
 refine OKS.ra rfl rfl rfl rfl rfl rfl ?_
 refine OKS.ra rfl rfl rfl rfl rfl rfl ?_
 refine OKS.e ?_
 refine thenQ_n ?_
 refine CK.seq ?_
 refine CK.seq ?_
 refine CK.reg (ks := []) (.fl 0 (.fl 1 (.fx 2 (.fl 3 (.nil)) .stop))) rfl ?_
 refine OKS.rm rfl rfl rfl rfl rfl rfl ?_
 refine OKS.rm rfl rfl rfl rfl rfl rfl ?_
 have q := bnd hm
 obtain ⟨x1, h2, hm3⟩ := q
 refine OKS.callH 0 rfl rfl rfl rfl (Enters.mk rfl rfl Try.call64 (mapcons rfl (mapcons rfl mapnil)) rfl) hS (fun hs => w_target_due p0 pA0 pc0 p1 pA1 pc1 w φ hs ha0 ha1 h2) (.inr rfl) ?_
 rintro φ4 L5 v6 W7 le8 hS9 ⟨rfl, rfl⟩
 have hS10 : St ⟨w, [], φ⟩ φ4 [] W7 := hS9
 refine OKS.ra rfl rfl rfl rfl rfl rfl ?_
 refine OKS.e ?_
 refine thenQ_n ?_
 refine CK.seq ?_
 refine CK.reg (ks := []) (.fl 0 (.fl 1 (.nil))) rfl ?_
 refine OKS.rm rfl rfl rfl rfl rfl rfl ?_
 refine OKS.r rfl rfl rfl rfl (fun _ => Runs.neq rfl rfl rfl) ?_
 refine OKS.e ?_
 refine thenQ_n ?_
 by_cases c11 : x1 = 0
 ·have hm12 := hm3; rw [if_pos c11] at hm12; replace c11 := Hid.mk c11
  refine CK.condF (decF (fun h => h c11.out)) ?_
  refine CK.skip ?_
  refine thenQ_n ?_
  refine CK.seq ?_
  refine CK.reg (ks := []) (.fl 0 (.fl 1 (.fl 2 (.fl 3 (.fl 4 (.fl 5 (.fx 6 (.fx 7 (.fl 8 (.fl 9 (.fl 10 (.fx 11 (.fx 12 (.fl 13 (.nil)) .stop) .stop)))) .stop) .stop))))))) rfl ?_
  refine OKS.rm rfl rfl rfl rfl rfl rfl ?_
  refine OKS.r rfl rfl rfl rfl (fun _ => Runs.len rfl rfl Try.runUnderlying22) ?_
  refine OKS.rm rfl rfl rfl rfl rfl rfl ?_
  refine OKS.r rfl rfl rfl rfl (fun _ => Runs.len rfl rfl Try.runUnderlying22) ?_
  refine OKS.rm rfl rfl rfl rfl rfl rfl ?_
  refine OKS.rm rfl rfl rfl rfl rfl rfl ?_
  have h13 := ha1.le le8
  have h14 := ha0.le le8
  have q := bnd hm12
  obtain ⟨x15, h16, hm17⟩ := q
  refine OKS.callH 0 rfl rfl rfl rfl (Enters.mk rfl rfl Try.call66 (mapcons rfl (mapcons rfl (mapcons rfl mapnil))) rfl) hS10 (fun hs => w_target_links (↑p0.length : Int) p1 pA1 pc1 p0 pA0 pc0 W7 φ4 hs h13 h14 h16) (.inr rfl) ?_
  rintro φ18 L19 v20 W21 le22 hS23 ⟨A24, c25, c26, rfl, rfl, h28⟩
  have hS29 : St ⟨w, [], φ⟩ φ18 [.row A24 c25 134 5 c26] W21 := hS23
  have q := hS29.freezeRR (R := rl134) (k := 0) rfl h28 rfl (by decide)
  obtain ⟨φ30, le31, hs32, hS33⟩ := q
  have hS34 : St ⟨w, [], φ⟩ φ30 [] W21 := hS33
  have q := bnd hm17
  obtain ⟨⟨x35, x36⟩, h37, hm38⟩ := q
  try dsimp only at hm38
  refine OKS.callH 0 rfl rfl rfl rfl (Enters.mk rfl rfl Try.call65 (mapcons rfl (mapcons rfl mapnil)) rfl) hS34 (fun hs => w_target_distances (↑p0.length : Int) x15 A24 c25 W21 φ30 hs hs32 h37) (.inr rfl) ?_
  rintro φ39 L40 v41 W42 le43 hS44 ⟨rfl, rfl⟩
  have hS45 : St ⟨w, [], φ⟩ φ39 [] W42 := hS44
  refine OKS.rm rfl rfl rfl rfl rfl rfl ?_
  refine OKS.r rfl rfl rfl rfl (fun _ => Runs.ext rfl rfl (v := .agg (List.flatMap encI x35.l).toArray) rfl) ?_
  refine OKS.r rfl rfl rfl rfl (fun _ => Runs.ext rfl rfl (v := .bool x36) rfl) ?_
  refine OKS.alloc (cs := List.flatMap encI (Arr.fill 81 0).l) rfl rfl rfl rfl rfl Try.zeroValue124 rfl hS45 ?_
  intro W46 b47 hS48
  have hS50 : St ⟨w, [], φ⟩ φ39 [.blk b47 124 (List.flatMap encI (Arr.fill 81 0).l)] W46 := hS48
  refine OKS.st (j := 0) (vs := List.flatMap encI x35.l) rfl rfl rfl rfl hS50 rfl rfl rfl rfl (fun w => by rw [whole_len (f := encI) (sz := 1) (N := 81) x35 (fun _ => rfl) rfl]; exact Try.sizeOf124 w) (by rw [whole_len (f := encI) (sz := 1) (N := 81) x35 (fun _ => rfl) rfl, whole_len (f := encI) (sz := 1) (N := 81) (Arr.fill 81 0) (fun _ => rfl) rfl]; exact Nat.le_of_ble_eq_true rfl) (all_one_flat (fun _ => rfl) _) (setN_all _ _ (by rw [whole_len (f := encI) (sz := 1) (N := 81) x35 (fun _ => rfl) rfl, whole_len (f := encI) (sz := 1) (N := 81) (Arr.fill 81 0) (fun _ => rfl) rfl])) rfl ?_
  intro W51 hS52
  have hS53 : St ⟨w, [], φ⟩ φ39 [.blk b47 124 (List.flatMap encI x35.l)] W51 := hS52
  refine OKS.ra rfl rfl rfl rfl rfl rfl ?_
  refine OKS.e ?_
  refine thenQ_n ?_
  refine CK.seq ?_
  refine CK.reg (ks := []) (.fl 0 (.fl 1 (.fl 2 (.fl 3 (.nil))))) rfl ?_
  refine OKS.rm rfl rfl rfl rfl rfl rfl ?_
  refine OKS.r rfl rfl rfl rfl (fun _ => Runs.notT rfl rfl) ?_
  refine OKS.ra rfl rfl rfl rfl rfl rfl ?_
  refine OKS.ra rfl rfl rfl rfl rfl rfl ?_
  refine OKS.e ?_
  refine thenQ_n ?_
  refine CK.ret ?_
  cases hm38
  exact ⟨rfl, _, (res2 rfl rfl), φ39, _, (hS53.pick [] _ (by decide) rfl), rfl, rfl⟩
 ·have hm54 := hm3; rw [if_neg c11] at hm54; replace c11 := Hid.mk c11
  refine CK.condT (decT c11.out) ?_
  refine CK.seq ?_
  refine CK.reg (ks := []) (.fl 0 (.fl 1 (.fl 2 (.nil)))) rfl ?_
  refine OKS.rm rfl rfl rfl rfl rfl rfl ?_
  refine OKS.ra rfl rfl rfl rfl rfl rfl ?_
  refine OKS.ra rfl rfl rfl rfl rfl rfl ?_
  refine OKS.e ?_
  refine thenQ_n ?_
  refine CK.ret ?_
  refine thenQ_r ?_
  cases hm54
  exact ⟨rfl, _, (res2 rfl rfl), φ4, _, hS10, rfl, rfl⟩

set_option maxHeartbeats 4000000 in
theorem w_target_RoundShows_1 (p0 : T_target_link) (pv0_3 : Value) (p1 : T_target_Step) (pb1 : Nat) (w : World) (φ : PHeap) (hS : St ⟨w, [], φ⟩ φ [] w) (ha0 : FnOK Try.prog φ pv0_3 ar132 rr132 p0.count) (ha1 : Cl φ pb1 0 [.int .i64 p1.Kind, .int .i64 p1.Index]) {r : Bool} (hm : m_target_RoundShows_1 p0 p1 = some r) : Gv Try.prog 70 [.agg #[.int .i64 p0.Step.Kind, .int .i64 p0.Step.Index, .int .i64 p0.from_, .int .i64 p0.to_, pv0_3], .pointer (some ⟨pb1, 0, none⟩)] w (RetS w [] φ (fun φ_ L_ v => v = .bool r ∧ L_ = [])) := by
 unfold m_target_RoundShows_1 at hm
 refine Gv.of Try.func70 rfl Try.ntmps70 Try.results70 rfl ?_
 refine CK.seq ?_
 refine CK.reg (ks := []) (.fx 0 (.fl 1 (.nil)) .stop) rfl ?_
 refine OKS.box (cs := [.int .i64 p0.Step.Kind, .int .i64 p0.Step.Index, .int .i64 p0.from_, .int .i64 p0.to_, pv0_3]) rfl rfl rfl rfl rfl rfl (by rfl) hS ?_
 intro W1 b2 hS3
 refine OKS.ra rfl rfl rfl rfl rfl rfl ?_
 refine OKS.e ?_
 refine thenQ_n ?_
 refine CK.seq ?_
 refine CK.reg (ks := []) (.fl 0 (.fl 1 (.fl 2 (.fl 3 (.fl 4 (.nil)))))) rfl ?_
 refine OKS.r rfl rfl rfl rfl (fun _ => Runs.fa rfl rfl Try.runUnderlying134 rfl Try.sizeOf35) ?_
 refine OKS.m rfl rfl rfl rfl (hS3.ldBA (j := 0) rfl rfl rfl Try.isAgg35 Try.sizeOf35 (vs := [.int .i64 p0.Step.Kind, .int .i64 p0.Step.Index]) rfl rfl) rfl ?_
 refine OKS.m rfl rfl rfl rfl (hS3.ldCA (f := 0) ha1 rfl rfl Try.isAgg35 Try.sizeOf35 (us := [.int .i64 p1.Kind, .int .i64 p1.Index]) rfl rfl) rfl ?_
 refine OKS.r rfl rfl rfl rfl (fun _ => Runs.eqS (enc := encT_target_Step) (a := p0.Step) (b := p1) rfl rfl rfl eqT35 eqG35) ?_
 refine OKS.ra rfl rfl rfl rfl rfl rfl ?_
 refine OKS.e ?_
 refine thenQ_n ?_
 refine CK.ret ?_
 cases hm
 exact ⟨rfl, _, (res1 rfl), φ, _, (hS3.pick [] _ (by decide) rfl), rfl, rfl⟩

set_option maxHeartbeats 4000000 in
theorem w_slices_IndexFunc_target_link_target_link (p0 : List T_target_link) (pA0 : Option Addr) (pc0 : Nat) (p1 : (T_target_link → Option Bool)) (pv1 : Value) (w : World) (φ : PHeap) (hS : St ⟨w, [], φ⟩ φ [] w) (ha0 : SlR φ rl134 pA0 pc0 p0) (ha1 : FnOK Try.prog φ pv1 ar135 rr135 p1) {r : Int} (hm : m_slices_IndexFunc_target_link_target_link p0 p1 = some r) : Gv Try.prog 69 [.slice pA0 p0.length pc0, pv1] w (RetS w [] φ (fun φ_ L_ v => v = .int .i64 r ∧ L_ = [])) := by
 unfold m_slices_IndexFunc_target_link_target_link at hm
 refine Gv.of Try.func69 rfl Try.ntmps69 Try.results69 rfl ?_
 refine CK.seq ?_
 refine CK.reg (ks := []) (.fl 0 (.nil)) rfl ?_
 refine OKS.ra rfl rfl rfl rfl rfl rfl ?_
 refine OKS.e ?_
 refine thenQ_n ?_
 refine CK.seq ?_
 refine CK.seq ?_
 refine CK.reg (ks := []) (.fl 0 (.fl 1 (.fl 2 (.nil)))) rfl ?_
 refine OKS.rm rfl rfl rfl rfl rfl rfl ?_
 refine OKS.r rfl rfl rfl rfl (fun _ => Runs.len rfl rfl Try.runUnderlying127) ?_
 refine OKS.rm rfl rfl rfl rfl rfl rfl ?_
 refine OKS.e ?_
 refine thenQ_n ?_
 refine CK.block ?_
 have q := jn_some hm
 obtain ⟨r3, hX4⟩ := q
 have q := forR_le hX4
 obtain ⟨hle5, hf6⟩ := q
 replace hle5 := Hid.mk hle5
 refine CK.forN (fun k2 _ σ_ w_ => ∃ (φ_ : PHeap), σ_ 8 = .int .i64 (↑k2 : Int) ∧ σ_ 0 = .slice pA0 p0.length pc0 ∧ σ_ 1 = pv1 ∧ σ_ 7 = .int .i64 (↑p0.length : Int) ∧ PHeap.Le φ φ_ ∧ St ⟨w, [], φ⟩ φ_ [] w_) hf6 ?_ ?_ ?_
 ·exact ⟨φ, rfl, rfl, rfl, rfl, (PHeap.Le.refl _), hS⟩
 ·rintro k2 ⟨⟩ xx9 σ7 W8 hk12 ⟨φ14, fi13, f17, f18, f19, le15, hS16⟩ hx10 hb11
  try dsimp only at hx10
  have c20 : Hid ((↑k2 : Int) < (↑p0.length : Int)) := Hid.mk (lp_lt0 hk12)
  replace hk12 := Hid.mk hk12
  have hi21 : Hid (w64 ((↑k2 : Int) + 1) = (↑(k2 + 1) : Int)) := Hid.mk (by have h1 := hle5.out; have h2 := c20.out; rw [w64_in] <;> omega)
  refine CK.seq ?_
  refine CK.reg (ks := []) (.fl 0 (.nil)) rfl ?_
  refine OKS.r rfl rfl rfl rfl (fun _ => Runs.lss rfl fi13 f19) ?_
  refine OKS.e ?_
  refine thenQ_n ?_
  refine CK.seq ?_
  refine CK.condT (decT c20.out) ?_
  refine CK.skip ?_
  refine thenQ_n ?_
  refine CK.seq ?_
  refine CK.block ?_
  refine CK.seq ?_
  refine CK.reg (ks := []) (.fl 0 (.fl 1 (.nil))) rfl ?_
  refine OKS.rm rfl rfl rfl rfl rfl fi13 ?_
  refine OKS.ra rfl rfl rfl rfl rfl rfl ?_
  refine OKS.e ?_
  refine thenQ_n ?_
  refine CK.seq ?_
  refine CK.reg (ks := []) (.fl 0 (.fl 1 (.fl 2 (.fl 3 (.fl 4 (.fx 5 (.nil) .stop)))))) rfl ?_
  refine OKS.rm rfl rfl rfl rfl rfl f18 ?_
  refine OKS.rm rfl rfl rfl rfl rfl f17 ?_
  refine OKS.rm rfl rfl rfl rfl rfl rfl ?_
  have q := bnd hx10
  obtain ⟨x22, h23, hm24⟩ := q
  have h25 := ha0.le le15
  have q := h25.el (idx_get h23)
  obtain ⟨b26, off27, vs30, hA28, hC29, hr31⟩ := q
  obtain ⟨pv32, rfl, h33⟩ := hr31
  replace hC29 : Cl φ14 b26 (off27 + k2 * 5) [.int .i64 x22.Step.Kind, .int .i64 x22.Step.Index, .int .i64 x22.from_, .int .i64 x22.to_, pv32] := hC29
  refine OKS.r rfl rfl rfl rfl (fun _ => Runs.iaN rfl rfl hA28 rfl Try.runUnderlying127 Try.sizeOf134 (idx_lt h23)) ?_
  refine OKS.m rfl rfl rfl rfl (hS16.ldCA (f := 0) hC29 rfl rfl Try.isAgg134 Try.sizeOf134 (us := [.int .i64 x22.Step.Kind, .int .i64 x22.Step.Index, .int .i64 x22.from_, .int .i64 x22.to_, pv32]) rfl rfl) rfl ?_
  have q := bnd hm24
  obtain ⟨x34, h35, hm36⟩ := q
  have h43 := ha1.le le15
  refine OKS.callV (a := x22) rfl rfl rfl rfl rfl rfl (mapcons rfl mapnil) hS16 h43 ⟨pv32, rfl, h33⟩ h35 ?_
  rintro φ37 L38 v39 W40 le41 hS42 ⟨rfl, rfl⟩
  have hS44 : St ⟨w, [], φ⟩ φ37 [] W40 := hS42
  refine OKS.e ?_
  refine thenQ_n ?_
  by_cases c45 : x34 = true
  ·have hm46 := hm36; rw [if_pos c45] at hm46; replace c45 := Hid.mk c45
   refine CK.condT (congrArg Value.bool c45.out) ?_
   refine CK.seq ?_
   refine CK.reg (ks := []) (.fl 0 (.fl 1 (.nil))) rfl ?_
   refine OKS.rm rfl rfl rfl rfl rfl rfl ?_
   refine OKS.ra rfl rfl rfl rfl rfl rfl ?_
   refine OKS.e ?_
   refine thenQ_n ?_
   refine CK.ret ?_
   refine blockQ_r ?_
   refine thenQ_r ?_
   have q := esc_spec hm46
   obtain ⟨v47, hm48, e49⟩ := q
   obtain rfl := jn_inr hm hX4 (hb11 v47 e49)
   refine thenQ_r ?_
   refine blockQ_r ?_
   refine thenQ_r ?_
   cases hm48
   exact ⟨rfl, _, (res1 rfl), φ37, _, hS44, rfl, rfl⟩
  ·have hm50 := hm36; rw [if_neg c45] at hm50; replace c45 := Hid.mk c45
   refine CK.condF (congrArg Value.bool (Bool.eq_false_iff.2 c45.out)) ?_
   refine CK.skip ?_
   refine blockQ_n ?_
   refine thenQ_n ?_
   refine CK.reg (ks := []) (.fl 0 (.fl 1 (.nil))) rfl ?_
   refine OKS.r rfl rfl rfl rfl (fun _ => Runs.to (Runs.addw rfl fi13 rfl) (congrArg (Value.int .i64) hi21.out)) ?_
   refine OKS.rm rfl rfl rfl rfl rfl rfl ?_
   refine OKS.e ?_
   obtain rfl := Option.some.inj hm50
   exact thenQ_n ⟨rfl, _, rfl, ⟨φ37, rfl, f17, f18, f19, (le15.trans le41), hS44⟩⟩
 ·rintro ⟨⟩ σ51 W52 ⟨φ55, fi54, f58, f59, f60, le56, hS57⟩ hb53
  have hm61 := jn_inl hm hX4 hb53
  try dsimp only at hm61
  have c62 : Hid (¬ ((↑(((↑p0.length : Int) : Int) - 0).toNat : Int) < (↑p0.length : Int))) := Hid.mk (lp_end0)
  refine CK.seq ?_
  refine CK.reg (ks := []) (.fl 0 (.nil)) rfl ?_
  refine OKS.r rfl rfl rfl rfl (fun _ => Runs.lss rfl fi54 f60) ?_
  refine OKS.e ?_
  refine thenQ_n ?_
  refine CK.seq ?_
  refine CK.condF (decF c62.out) ?_
  refine CK.exit ?_
  refine thenQ_e ?_
  refine thenQ_e ?_
  refine blockQ_h ?_
  refine thenQ_n ?_
  refine CK.seq ?_
  refine CK.reg (ks := []) (.fl 0 (.nil)) rfl ?_
  refine OKS.ra rfl rfl rfl rfl rfl rfl ?_
  refine OKS.e ?_
  refine thenQ_n ?_
  refine CK.ret ?_
  cases hm61
  exact ⟨rfl, _, (res1 rfl), φ55, _, hS57, rfl, rfl⟩

set_option maxHeartbeats 4000000 in
theorem w_target_RoundShows (p0 : List Int) (pA0 : Option Addr) (pc0 : Nat) (p1 : List T_target_Sheet) (pA1 : Option Addr) (pc1 : Nat) (p2 : List T_target_Step) (pA2 : Option Addr) (pc2 : Nat) (w : World) (φ : PHeap) (hS : St ⟨w, [], φ⟩ φ [] w) (ha0 : Sl φ 1 pA0 pc0 p0.length (List.flatMap encI p0)) (ha1 : Sl φ 4 pA1 pc1 p1.length (List.flatMap encT_target_Sheet p1)) (ha2 : Sl φ 2 pA2 pc2 p2.length (List.flatMap encT_target_Step p2)) {r : Int × Int} (hm : m_target_RoundShows p0 p1 p2 = some r) : Gv Try.prog 17 [.slice pA0 p0.length pc0, .slice pA1 p1.length pc1, .slice pA2 p2.length pc2] w (RetS w [] φ (fun φ_ L_ v => v = .tuple #[.int .i64 r.1, .int .i64 r.2] ∧ L_ = [])) := by
 unfold m_target_RoundShows at hm
 refine Gv.of Try.func17 rfl Try.ntmps17 Try.results17 rfl ?_
 refine CK.seq ?_
 refine CK.reg (ks := []) (.fl 0 (.fl 1 (.nil))) rfl ?_
 refine OKS.ra rfl rfl rfl rfl rfl rfl ?_
 refine OKS.ra rfl rfl rfl rfl rfl rfl ?_
 refine OKS.e ?_
 refine thenQ_n ?_
 refine CK.seq ?_
 refine CK.reg (ks := []) (.fl 0 (.fl 1 (.fx 2 (.fl 3 (.nil)) .stop))) rfl ?_
 refine OKS.rm rfl rfl rfl rfl rfl rfl ?_
 refine OKS.rm rfl rfl rfl rfl rfl rfl ?_
 have q := bnd hm
 obtain ⟨x1, h2, hm3⟩ := q
 refine OKS.callH 0 rfl rfl rfl rfl (Enters.mk rfl rfl Try.call64 (mapcons rfl (mapcons rfl mapnil)) rfl) hS (fun hs => w_target_due p0 pA0 pc0 p1 pA1 pc1 w φ hs ha0 ha1 h2) (.inr rfl) ?_
 rintro φ4 L5 v6 W7 le8 hS9 ⟨rfl, rfl⟩
 have hS10 : St ⟨w, [], φ⟩ φ4 [] W7 := hS9
 refine OKS.ra rfl rfl rfl rfl rfl rfl ?_
 refine OKS.e ?_
 refine thenQ_n ?_
 refine CK.seq ?_
 refine CK.block ?_
 refine CK.seq ?_
 refine CK.reg (ks := []) (.fl 0 (.fl 1 (.fl 2 (.nil)))) rfl ?_
 refine OKS.rm rfl rfl rfl rfl rfl rfl ?_
 refine OKS.r rfl rfl rfl rfl (fun _ => Runs.neq rfl rfl rfl) ?_
 refine OKS.ra rfl rfl rfl rfl rfl rfl ?_
 refine OKS.e ?_
 refine thenQ_n ?_
 by_cases c11 : x1 = 0
 ·have hm12 := hm3; rw [if_pos c11] at hm12; replace c11 := Hid.mk c11
  refine CK.condF (decF (fun h => h c11.out)) ?_
  refine CK.seq ?_
  refine CK.reg (ks := []) (.fl 0 (.fl 1 (.fx 2 (.fl 3 (.fl 4 (.nil))) .stop))) rfl ?_
  refine OKS.rm rfl rfl rfl rfl rfl rfl ?_
  refine OKS.r rfl rfl rfl rfl (fun _ => Runs.len rfl rfl Try.runUnderlying24) ?_
  have q := bnd hm12
  obtain ⟨x13, h14, hm15⟩ := q
  refine OKS.callH 0 rfl rfl rfl rfl (Enters.mk rfl rfl Try.call68 (mapcons rfl (mapcons rfl (mapcons rfl mapnil))) rfl) hS10 (fun hs => w_target_within (↑p2.length : Int) 1 40 W7 φ4 hs h14) (.inr rfl) ?_
  rintro φ16 L17 v18 W19 le20 hS21 ⟨rfl, rfl⟩
  have hS22 : St ⟨w, [], φ⟩ φ16 [] W19 := hS21
  refine OKS.r rfl rfl rfl rfl (fun _ => Runs.notT rfl rfl) ?_
  refine OKS.ra rfl rfl rfl rfl rfl rfl ?_
  refine OKS.e ?_
  refine thenQ_n ?_
  by_cases c23 : x13 = true
  ·have hm24 := hm15; rw [if_pos c23] at hm24; replace c23 := Hid.mk c23
   refine CK.condF (congrArg (fun b => Value.bool (!b)) c23.out) ?_
   refine CK.skip ?_
   refine blockQ_n ?_
   refine thenQ_n ?_
   refine CK.seq ?_
   refine CK.reg (ks := []) (.fl 0 (.fl 1 (.fl 2 (.fl 3 (.fx 4 (.fl 5 (.nil)) .stop))))) rfl ?_
   refine OKS.rm rfl rfl rfl rfl rfl rfl ?_
   refine OKS.r rfl rfl rfl rfl (fun _ => Runs.len rfl rfl Try.runUnderlying22) ?_
   refine OKS.rm rfl rfl rfl rfl rfl rfl ?_
   refine OKS.rm rfl rfl rfl rfl rfl rfl ?_
   have h25 := ha1.le le8
   have h26 := h25.le le20
   have h27 := ha0.le le8
   have h28 := h27.le le20
   have q := bnd hm24
   obtain ⟨x29, h30, hm31⟩ := q
   refine OKS.callH 0 rfl rfl rfl rfl (Enters.mk rfl rfl Try.call66 (mapcons rfl (mapcons rfl (mapcons rfl mapnil))) rfl) hS22 (fun hs => w_target_links (↑p0.length : Int) p1 pA1 pc1 p0 pA0 pc0 W19 φ16 hs h26 h28 h30) (.inr rfl) ?_
   rintro φ32 L33 v34 W35 le36 hS37 ⟨A38, c39, c40, rfl, rfl, h42⟩
   have hS43 : St ⟨w, [], φ⟩ φ32 [.row A38 c39 134 5 c40] W35 := hS37
   refine OKS.ra rfl rfl rfl rfl rfl rfl ?_
   refine OKS.e ?_
   refine thenQ_n ?_
   refine CK.seq ?_
   refine CK.reg (ks := []) (.fl 0 (.nil)) rfl ?_
   refine OKS.ra rfl rfl rfl rfl rfl rfl ?_
   refine OKS.e ?_
   refine thenQ_n ?_
   refine CK.seq ?_
   refine CK.seq ?_
   refine CK.reg (ks := []) (.fl 0 (.fl 1 (.fl 2 (.nil)))) rfl ?_
   refine OKS.rm rfl rfl rfl rfl rfl rfl ?_
   refine OKS.r rfl rfl rfl rfl (fun _ => Runs.len rfl rfl Try.runUnderlying24) ?_
   refine OKS.rm rfl rfl rfl rfl rfl rfl ?_
   refine OKS.e ?_
   refine thenQ_n ?_
   refine CK.block ?_
   have q := hS43.freezeRR (R := rl134) (k := 0) rfl h42 rfl (by decide)
   obtain ⟨φ45, le46, hs47, hS48⟩ := q
   have hS49 : St ⟨w, [], φ⟩ φ45 [] W35 := hS48
   have q := jn_some hm31
   obtain ⟨r72, hX73⟩ := q
   have q := forR_le hX73
   obtain ⟨hle74, hf75⟩ := q
   replace hle74 := Hid.mk hle74
   refine CK.forN (fun k71 l66 σ_ w_ => ∃ (φ_ : PHeap) (A67 : Option Addr) (c68 : Nat) (cs70 : List Value), σ_ 36 = .int .i64 (↑k71 : Int) ∧ σ_ 9 = .slice A38 x29.length c39 ∧ σ_ 10 = .slice A67 l66.length c68 ∧ σ_ 34 = .slice pA2 p2.length pc2 ∧ σ_ 35 = .int .i64 (↑p2.length : Int) ∧ PHeap.Le φ45 φ_ ∧ St ⟨w, [], φ⟩ φ_ [.row A67 c68 134 5 cs70] w_ ∧ RlL φ_ rl134 l66 cs70) hf75 ?_ ?_ ?_
   ·have hS76 := hS49.nilrow 134 5
    exact ⟨φ45, none, 0, [], rfl, rfl, rfl, rfl, rfl, (PHeap.Le.refl _), hS76, RlL.nil⟩
   ·rintro k71 l66 xx80 σ78 W79 hk83 ⟨φ85, A67, c68, cs70, fi84, f88, f89, f90, f91, le86, hS87, h92⟩ hx81 hb82
    have c93 : Hid ((↑k71 : Int) < (↑p2.length : Int)) := Hid.mk (lp_lt0 hk83)
    replace hk83 := Hid.mk hk83
    have hi94 : Hid (w64 ((↑k71 : Int) + 1) = (↑(k71 + 1) : Int)) := Hid.mk (by have h1 := hle74.out; have h2 := c93.out; rw [w64_in] <;> omega)
    refine CK.seq ?_
    refine CK.reg (ks := []) (.fl 0 (.nil)) rfl ?_
    refine OKS.r rfl rfl rfl rfl (fun _ => Runs.lss rfl fi84 f91) ?_
    refine OKS.e ?_
    refine thenQ_n ?_
    refine CK.seq ?_
    refine CK.condT (decT c93.out) ?_
    refine CK.skip ?_
    refine thenQ_n ?_
    refine CK.seq ?_
    refine CK.block ?_
    refine CK.seq ?_
    refine CK.reg (ks := []) (.fl 0 (.fl 1 (.fx 2 (.fx 3 (.nil) .stop) .stop))) rfl ?_
    have q := bnd hx81
    obtain ⟨x95, h96, hm97⟩ := q
    have h98 := ha2.le le8
    have h99 := h98.le le20
    have h100 := h99.le le36
    have h101 := h100.le le46
    have h102 := h101.le le86
    have q := h102.el (fun _ => rfl) (idx_get h96)
    obtain ⟨b103, off104, hA105, hC106⟩ := q
    refine OKS.r rfl rfl rfl rfl (fun _ => Runs.iaN rfl f90 hA105 fi84 Try.runUnderlying24 Try.sizeOf35 (idx_lt h96)) ?_
    refine OKS.m rfl rfl rfl rfl (hS87.ldCA (f := 0) hC106 rfl rfl Try.isAgg35 Try.sizeOf35 (us := [.int .i64 x95.Kind, .int .i64 x95.Index]) rfl rfl) rfl ?_
    refine OKS.alloc (cs := [.int .i64 0, .int .i64 0]) rfl rfl rfl rfl rfl Try.zeroValue35 rfl hS87 ?_
    intro W107 b108 hS109
    refine OKS.st (j := 0) (vs := [.int .i64 x95.Kind, .int .i64 x95.Index]) rfl rfl rfl rfl hS109 rfl rfl rfl rfl Try.sizeOf35 (Nat.le_of_ble_eq_true rfl) rfl rfl rfl ?_
    intro W111 hS112
    have hS113 : St ⟨w, [], φ⟩ φ85 [.blk b108 35 [.int .i64 x95.Kind, .int .i64 x95.Index], .row A67 c68 134 5 cs70] W111 := hS112
    refine OKS.e ?_
    refine thenQ_n ?_
    refine CK.seq ?_
    refine CK.reg (ks := []) (.fl 0 (.fl 1 (.fx 2 (.fl 3 (.nil)) .stop))) rfl ?_
    refine OKS.rm rfl rfl rfl rfl rfl f88 ?_
    have q := hS113.freeze (k := 0) rfl
    obtain ⟨φ114, le115, hC116, hS117⟩ := q
    replace hC116 := Cl.of hC116
    have hS118 : St ⟨w, [], φ⟩ φ114 [.row A67 c68 134 5 cs70] W111 := hS117
    replace hC116 : Cl φ114 b108 0 [.int .i64 x95.Kind, .int .i64 x95.Index] := hC116
    refine OKS.r rfl rfl rfl rfl (fun _ => Runs.mkf rfl mapnil (mapcons rfl mapnil)) ?_
    have h119 := hs47.le le86
    have h120 := h119.le le115
    have hF121 : FnOK Try.prog φ114 (.func (.func 70) #[] #[.pointer (some ⟨b108, 0, none⟩)]) ar135 rr135 (fun x => m_target_RoundShows_1 x x95) := ⟨70, [], [.pointer (some ⟨b108, 0, none⟩)], rfl, Try.call70, fun φ1 w1 x y vs le hs ha hm => by obtain ⟨pv_0_3, rfl, hq0_0⟩ := ha; exact w_target_RoundShows_1 x pv_0_3 x95 b108 w1 φ1 hs hq0_0 (hC116.le le) hm⟩
    have q := bnd hm97
    obtain ⟨x122, h123, hm124⟩ := q
    refine OKS.callH 0 rfl rfl rfl rfl (Enters.mk rfl rfl Try.call69 (mapcons rfl (mapcons rfl mapnil)) rfl) hS118 (fun hs => w_slices_IndexFunc_target_link_target_link x29 A38 c39 (fun x => m_target_RoundShows_1 x x95) (.func (.func 70) #[] #[.pointer (some ⟨b108, 0, none⟩)]) W111 φ114 hs h120 hF121 h123) (.inr rfl) ?_
    rintro φ125 L126 v127 W128 le129 hS130 ⟨rfl, rfl⟩
    have hS131 : St ⟨w, [], φ⟩ φ125 [.row A67 c68 134 5 cs70] W128 := hS130
    refine OKS.ra rfl rfl rfl rfl rfl rfl ?_
    refine OKS.e ?_
    refine thenQ_n ?_
    refine CK.seq ?_
    refine CK.seq ?_
    refine CK.reg (ks := []) (.fl 0 (.fl 1 (.nil))) rfl ?_
    refine OKS.rm rfl rfl rfl rfl rfl rfl ?_
    refine OKS.r rfl rfl rfl rfl (fun _ => Runs.lss rfl rfl rfl) ?_
    refine OKS.e ?_
    refine thenQ_n ?_
    by_cases c132 : x122 < 0
    ·have hm133 := hm124; rw [if_pos c132] at hm133; replace c132 := Hid.mk c132
     refine CK.condT (decT c132.out) ?_
     refine CK.seq ?_
     refine CK.reg (ks := []) (.fl 0 (.fl 1 (.nil))) rfl ?_
     refine OKS.ra rfl rfl rfl rfl rfl rfl ?_
     refine OKS.ra rfl rfl rfl rfl rfl rfl ?_
     refine OKS.e ?_
     refine thenQ_n ?_
     refine CK.ret ?_
     refine thenQ_r ?_
     refine blockQ_r ?_
     refine thenQ_r ?_
     have q := esc_spec hm133
     obtain ⟨v134, hm135, e136⟩ := q
     obtain rfl := jn_inr hm31 hX73 (hb82 v134 e136)
     refine thenQ_r ?_
     refine blockQ_r ?_
     refine thenQ_r ?_
     cases hm135
     exact ⟨rfl, _, (res2 rfl rfl), φ125, _, (hS131.pick [] _ (by decide) rfl), rfl, rfl⟩
    ·have hm137 := hm124; rw [if_neg c132] at hm137; replace c132 := Hid.mk c132
     refine CK.condF (decF c132.out) ?_
     refine CK.skip ?_
     refine thenQ_n ?_
     refine CK.reg (ks := []) (.fl 0 (.fl 1 (.fl 2 (.fl 3 (.fl 4 (.fx 5 (.fx 6 (.fl 7 (.nil)) .stop) .stop)))))) rfl ?_
     refine OKS.rm rfl rfl rfl rfl rfl f89 ?_
     refine OKS.rm rfl rfl rfl rfl rfl f88 ?_
     refine OKS.rm rfl rfl rfl rfl rfl rfl ?_
     have q := bnd hm137
     obtain ⟨x138, h139, hm140⟩ := q
     have h141 := h120.le le129
     have q := h141.el (idx_get h139)
     obtain ⟨b142, off143, vs146, hA144, hC145, hr147⟩ := q
     obtain ⟨pv148, rfl, h149⟩ := hr147
     replace hC145 : Cl φ125 b142 (off143 + x122.toNat * 5) [.int .i64 x138.Step.Kind, .int .i64 x138.Step.Index, .int .i64 x138.from_, .int .i64 x138.to_, pv148] := hC145
     refine OKS.r rfl rfl rfl rfl (fun _ => Runs.iaI rfl rfl hA144 rfl Try.runUnderlying127 Try.sizeOf134 (idx_lo h139) (idx_hi h139)) ?_
     refine OKS.m rfl rfl rfl rfl (hS131.ldCA (f := 0) hC145 rfl rfl Try.isAgg134 Try.sizeOf134 (us := [.int .i64 x138.Step.Kind, .int .i64 x138.Step.Index, .int .i64 x138.from_, .int .i64 x138.to_, pv148]) rfl rfl) rfl ?_
     refine OKS.buildSlice (pv := [(0, .agg #[.int .i64 x138.Step.Kind, .int .i64 x138.Step.Index, .int .i64 x138.from_, .int .i64 x138.to_, pv148])]) (zs := [.int .i64 0, .int .i64 0, .int .i64 0, .int .i64 0, .nilFunc]) (cs := [.int .i64 x138.Step.Kind, .int .i64 x138.Step.Index, .int .i64 x138.from_, .int .i64 x138.to_, pv148]) rfl rfl rfl rfl rfl (mapcons2 rfl mapnil2) Try.runUnderlying127 Try.sizeOf134 Try.zeroValue134 rfl rfl rfl rfl rfl hS131 ?_
     intro W150 b151 hS152
     have hr154 : RlL φ125 rl134 [x138] [.int .i64 x138.Step.Kind, .int .i64 x138.Step.Index, .int .i64 x138.from_, .int .i64 x138.to_, pv148] := (RlL.cons (R := rl134) (x := x138) (vs := [.int .i64 x138.Step.Kind, .int .i64 x138.Step.Index, .int .i64 x138.from_, .int .i64 x138.to_, pv148]) ⟨pv148, rfl, h149⟩ RlL.nil)
     have hS155 : St ⟨w, [], φ⟩ φ125 [.row (some ⟨b151, 0, none⟩) 1 134 5 [.int .i64 x138.Step.Kind, .int .i64 x138.Step.Index, .int .i64 x138.from_, .int .i64 x138.to_, pv148], .row A67 c68 134 5 cs70] W150 := hS152
     have q := bnd hm140
     obtain ⟨x156, h157, hm158⟩ := q
     have h165 := h92.le le115
     have h166 := h165.le le129
     refine OKS.appendR (R := rl134) (j := 1) (xs := l66) (ys := [x138]) (zs := x156) rfl rfl rfl rfl rfl Try.underlying127 info134 rfl rfl rfl rfl rfl rfl rfl hS155 rfl rfl rfl h166 hr154 (hS155.srcR (j := 0) rfl (by decide) (RlL.len hr154)) h157 rfl ?_
     intro A159 c160 cs161 W162 hS163 hr164
     have hS167 : St ⟨w, [], φ⟩ φ125 [.row (some ⟨b151, 0, none⟩) 1 134 5 [.int .i64 x138.Step.Kind, .int .i64 x138.Step.Index, .int .i64 x138.from_, .int .i64 x138.to_, pv148], .row A159 c160 134 5 cs161] W162 := hS163
     refine OKS.ra rfl rfl rfl rfl rfl rfl ?_
     refine OKS.e ?_
     refine blockQ_n ?_
     refine thenQ_n ?_
     refine CK.reg (ks := []) (.fl 0 (.fl 1 (.nil))) rfl ?_
     refine OKS.r rfl rfl rfl rfl (fun _ => Runs.to (Runs.addw rfl fi84 rfl) (congrArg (Value.int .i64) hi94.out)) ?_
     refine OKS.rm rfl rfl rfl rfl rfl rfl ?_
     refine OKS.e ?_
     obtain rfl := Option.some.inj hm158
     exact thenQ_n ⟨rfl, _, rfl, ⟨φ125, A159, c160, cs161, rfl, f88, rfl, f90, f91, ((le86.trans le115).trans le129), (hS167.pick [1] _ (by decide) rfl), hr164⟩⟩
   ·rintro y176 σ172 W173 ⟨φ180, A177, c178, c179, fi175, f183, f184, f185, f186, le181, hS182, h187⟩ hb174
    have hm188 := jn_inl hm31 hX73 hb174
    have c189 : Hid (¬ ((↑(((↑p2.length : Int) : Int) - 0).toNat : Int) < (↑p2.length : Int))) := Hid.mk (lp_end0)
    refine CK.seq ?_
    refine CK.reg (ks := []) (.fl 0 (.nil)) rfl ?_
    refine OKS.r rfl rfl rfl rfl (fun _ => Runs.lss rfl fi175 f186) ?_
    refine OKS.e ?_
    refine thenQ_n ?_
    refine CK.seq ?_
    refine CK.condF (decF c189.out) ?_
    refine CK.exit ?_
    refine thenQ_e ?_
    refine thenQ_e ?_
    refine blockQ_h ?_
    refine thenQ_n ?_
    refine CK.seq ?_
    refine CK.reg (ks := []) (.fl 0 (.nil)) rfl ?_
    refine OKS.ra rfl rfl rfl rfl rfl rfl ?_
    refine OKS.e ?_
    refine thenQ_n ?_
    refine CK.seq ?_
    refine CK.seq ?_
    refine CK.reg (ks := []) (.fl 0 (.fl 1 (.fl 2 (.nil)))) rfl ?_
    refine OKS.rm rfl rfl rfl rfl rfl f184 ?_
    refine OKS.r rfl rfl rfl rfl (fun _ => Runs.len rfl rfl Try.runUnderlying127) ?_
    refine OKS.rm rfl rfl rfl rfl rfl rfl ?_
    refine OKS.e ?_
    refine thenQ_n ?_
    refine CK.block ?_
    have q := hS182.freezeRR (R := rl134) (k := 0) rfl h187 rfl (by decide)
    obtain ⟨φ191, le192, hs193, hS194⟩ := q
    have hS195 : St ⟨w, [], φ⟩ φ191 [] W173 := hS194
    have q := jn_some hm188
    obtain ⟨r203, hX204⟩ := q
    have q := forR_le hX204
    obtain ⟨hle205, hf206⟩ := q
    replace hle205 := Hid.mk hle205
    refine CK.forN (fun k202 x201 σ_ w_ => ∃ (φ_ : PHeap), σ_ 55 = .int .i64 (↑k202 : Int) ∧ σ_ 10 = .slice A177 y176.length c178 ∧ σ_ 14 = .int .i64 x201 ∧ σ_ 53 = .slice A177 y176.length c178 ∧ σ_ 54 = .int .i64 (↑y176.length : Int) ∧ PHeap.Le φ191 φ_ ∧ St ⟨w, [], φ⟩ φ_ [] w_) hf206 ?_ ?_ ?_
    ·exact ⟨φ191, rfl, f184, rfl, rfl, rfl, (PHeap.Le.refl _), hS195⟩
    ·rintro k202 x201 xx209 σ207 W208 hk212 ⟨φ214, fi213, f217, f218, f219, f220, le215, hS216⟩ hx210 hb211
     have c221 : Hid ((↑k202 : Int) < (↑y176.length : Int)) := Hid.mk (lp_lt0 hk212)
     replace hk212 := Hid.mk hk212
     have hi222 : Hid (w64 ((↑k202 : Int) + 1) = (↑(k202 + 1) : Int)) := Hid.mk (by have h1 := hle205.out; have h2 := c221.out; rw [w64_in] <;> omega)
     refine CK.seq ?_
     refine CK.reg (ks := []) (.fl 0 (.nil)) rfl ?_
     refine OKS.r rfl rfl rfl rfl (fun _ => Runs.lss rfl fi213 f220) ?_
     refine OKS.e ?_
     refine thenQ_n ?_
     refine CK.seq ?_
     refine CK.condT (decT c221.out) ?_
     refine CK.skip ?_
     refine thenQ_n ?_
     refine CK.seq ?_
     refine CK.block ?_
     refine CK.seq ?_
     refine CK.reg (ks := []) (.fl 0 (.fl 1 (.fl 2 (.fx 3 (.fl 4 (.fx 5 (.nil) .stop)) .stop)))) rfl ?_
     refine OKS.rm rfl rfl rfl rfl rfl fi213 ?_
     have q := bnd hx210
     obtain ⟨x223, h224, hm225⟩ := q
     have h226 := hs193.le le215
     have q := h226.el (idx_get h224)
     obtain ⟨b227, off228, vs231, hA229, hC230, hr232⟩ := q
     obtain ⟨pv233, rfl, h234⟩ := hr232
     replace hC230 : Cl φ214 b227 (off228 + k202 * 5) [.int .i64 x223.Step.Kind, .int .i64 x223.Step.Index, .int .i64 x223.from_, .int .i64 x223.to_, pv233] := hC230
     refine OKS.r rfl rfl rfl rfl (fun _ => Runs.iaN rfl f219 hA229 fi213 Try.runUnderlying127 Try.sizeOf134 (idx_lt h224)) ?_
     refine OKS.m rfl rfl rfl rfl (hS216.ldCA (f := 0) hC230 rfl rfl Try.isAgg134 Try.sizeOf134 (us := [.int .i64 x223.Step.Kind, .int .i64 x223.Step.Index, .int .i64 x223.from_, .int .i64 x223.to_, pv233]) rfl rfl) rfl ?_
     refine OKS.alloc (cs := [.int .i64 0, .int .i64 0, .int .i64 0, .int .i64 0, .nilFunc]) rfl rfl rfl rfl rfl Try.zeroValue134 rfl hS216 ?_
     intro W235 b236 hS237
     refine OKS.ra rfl rfl rfl rfl rfl rfl ?_
     have q := id h234
     obtain ⟨fid239, fst240, cap241, he242, _⟩ := q
     subst he242
     refine OKS.st (j := 0) (vs := [.int .i64 x223.Step.Kind, .int .i64 x223.Step.Index, .int .i64 x223.from_, .int .i64 x223.to_, (.func (.func fid239) (List.toArray fst240) (List.toArray cap241))]) rfl rfl rfl rfl hS237 rfl rfl rfl rfl Try.sizeOf134 (Nat.le_of_ble_eq_true rfl) rfl rfl rfl ?_
     intro W243 hS244
     have hS245 : St ⟨w, [], φ⟩ φ214 [.blk b236 134 [.int .i64 x223.Step.Kind, .int .i64 x223.Step.Index, .int .i64 x223.from_, .int .i64 x223.to_, (.func (.func fid239) (List.toArray fst240) (List.toArray cap241))]] W243 := hS244
     refine OKS.e ?_
     refine thenQ_n ?_
     refine CK.seq ?_
     refine CK.seq ?_
     refine CK.anyOrd Try.mixed [3, 1, 3, 3, 3, 3, 3, 3, 3, 3, 1, 3] (.fl 0 (.fl 1 (.fl 2 (.fl 3 (.fl 4 (.fl 5 (.fl 6 (.fl 7 (.fl 8 (.fl 9 (.fl 10 (.fl 11 (.nil))))))))))))) (by kernel_rfl) ?_
     have hS246 := hS245.drew
     generalize hw_W247 : ({ W243 with drawn := W243.drawn + 1 } : World) = W247 at hS246 ⊢
     refine OKS.r rfl rfl rfl rfl (fun _ => Runs.fa rfl rfl Try.runUnderlying134 rfl Try.sizeOf3) ?_
     refine OKS.m rfl rfl rfl rfl (hS246.ldB (j := 0) rfl rfl rfl Try.isAgg3 (v := .int .i64 x223.to_) rfl) rfl ?_
     refine OKS.rm rfl rfl rfl rfl rfl f217 ?_
     refine OKS.rm rfl rfl rfl rfl rfl rfl ?_
     refine OKS.r rfl rfl rfl rfl (fun _ => Runs.to (Runs.addw rfl rfl rfl) (congrArg (Value.int .i64) hi222.out)) ?_
     refine OKS.rm rfl rfl rfl rfl rfl f217 ?_
     refine OKS.r rfl rfl rfl rfl (fun _ => Runs.len rfl rfl Try.runUnderlying127) ?_
     have q := bnd hm225
     obtain ⟨x248, h249, hm250⟩ := q
     refine OKS.r rfl rfl rfl rfl (fun _ => Runs.rem rfl rfl rfl h249) ?_
     have q := bnd hm250
     obtain ⟨x251, h252, hm253⟩ := q
     have q := h226.el (idx_get h252)
     obtain ⟨b254, off255, vs258, hA256, hC257, hr259⟩ := q
     obtain ⟨pv260, rfl, h261⟩ := hr259
     replace hC257 : Cl φ214 b254 (off255 + x248.toNat * 5) [.int .i64 x251.Step.Kind, .int .i64 x251.Step.Index, .int .i64 x251.from_, .int .i64 x251.to_, pv260] := hC257
     refine OKS.r rfl rfl rfl rfl (fun _ => Runs.iaI rfl rfl hA256 rfl Try.runUnderlying127 Try.sizeOf134 (idx_lo h252) (idx_hi h252)) ?_
     refine OKS.r rfl rfl rfl rfl (fun _ => Runs.fa rfl rfl Try.runUnderlying134 rfl Try.sizeOf3) ?_
     refine OKS.m rfl rfl rfl rfl (hS246.ldC (f := 2) hC257 (v := .int .i64 x251.from_) rfl rfl Try.isAgg3 rfl) rfl ?_
     refine OKS.r rfl rfl rfl rfl (fun _ => Runs.neq rfl rfl rfl) ?_
     refine OKS.e ?_
     refine thenQ_n ?_
     by_cases c262 : x223.to_ = x251.from_
     ·have hm263 := hm253; rw [if_pos c262] at hm263; replace c262 := Hid.mk c262
      refine CK.condF (decF (fun h => h c262.out)) ?_
      refine CK.skip ?_
      refine thenQ_n ?_
      refine CK.reg (ks := []) (.fl 0 (.fl 1 (.fl 2 (.fx 3 (.fl 4 (.fl 5 (.nil))) .stop)))) rfl ?_
      refine OKS.rm rfl rfl rfl rfl rfl f218 ?_
      refine OKS.r rfl rfl rfl rfl (fun _ => Runs.fa rfl rfl Try.runUnderlying134 rfl Try.sizeOf132) ?_
      refine OKS.m rfl rfl rfl rfl (hS246.ldB (j := 0) rfl rfl rfl Try.isAgg132 (v := (.func (.func fid239) (List.toArray fst240) (List.toArray cap241))) rfl) rfl ?_
      have q := bnd hm263
      obtain ⟨x264, h265, hm266⟩ := q
      refine OKS.callV (a := ()) rfl rfl rfl rfl rfl rfl mapnil hS246 h234 rfl h265 ?_
      rintro φ267 L268 v269 W270 le271 hS272 ⟨rfl, rfl⟩
      have hS273 : St ⟨w, [], φ⟩ φ267 [.blk b236 134 [.int .i64 x223.Step.Kind, .int .i64 x223.Step.Index, .int .i64 x223.from_, .int .i64 x223.to_, (.func (.func fid239) (List.toArray fst240) (List.toArray cap241))]] W270 := hS272
      refine OKS.r rfl rfl rfl rfl (fun _ => Runs.addw rfl rfl rfl) ?_
      refine OKS.ra rfl rfl rfl rfl rfl rfl ?_
      refine OKS.e ?_
      refine blockQ_n ?_
      refine thenQ_n ?_
      refine CK.reg (ks := []) (.fl 0 (.fl 1 (.nil))) rfl ?_
      refine OKS.r rfl rfl rfl rfl (fun _ => Runs.to (Runs.addw rfl fi213 rfl) (congrArg (Value.int .i64) hi222.out)) ?_
      refine OKS.rm rfl rfl rfl rfl rfl rfl ?_
      refine OKS.e ?_
      obtain rfl := Option.some.inj hm266
      exact thenQ_n ⟨rfl, _, rfl, ⟨φ267, rfl, f217, rfl, f219, f220, (le215.trans le271), (hS273.pick [] _ (by decide) rfl)⟩⟩
     ·have hm275 := hm253; rw [if_neg c262] at hm275; replace c262 := Hid.mk c262
      refine CK.condT (decT c262.out) ?_
      refine CK.seq ?_
      refine CK.reg (ks := []) (.fl 0 (.fl 1 (.nil))) rfl ?_
      refine OKS.ra rfl rfl rfl rfl rfl rfl ?_
      refine OKS.ra rfl rfl rfl rfl rfl rfl ?_
      refine OKS.e ?_
      refine thenQ_n ?_
      refine CK.ret ?_
      refine thenQ_r ?_
      refine blockQ_r ?_
      refine thenQ_r ?_
      have q := esc_spec hm275
      obtain ⟨v276, hm277, e278⟩ := q
      obtain rfl := jn_inr hm188 hX204 (hb211 v276 e278)
      refine thenQ_r ?_
      refine blockQ_r ?_
      refine thenQ_r ?_
      cases hm277
      exact ⟨rfl, _, (res2 rfl rfl), φ214, _, (hS246.pick [] _ (by decide) rfl), rfl, rfl⟩
    ·rintro y283 σ279 W280 ⟨φ284, fi282, f287, f288, f289, f290, le285, hS286⟩ hb281
     have hm291 := jn_inl hm188 hX204 hb281
     have c292 : Hid (¬ ((↑(((↑y176.length : Int) : Int) - 0).toNat : Int) < (↑y176.length : Int))) := Hid.mk (lp_end0)
     refine CK.seq ?_
     refine CK.reg (ks := []) (.fl 0 (.nil)) rfl ?_
     refine OKS.r rfl rfl rfl rfl (fun _ => Runs.lss rfl fi282 f290) ?_
     refine OKS.e ?_
     refine thenQ_n ?_
     refine CK.seq ?_
     refine CK.condF (decF c292.out) ?_
     refine CK.exit ?_
     refine thenQ_e ?_
     refine thenQ_e ?_
     refine blockQ_h ?_
     refine thenQ_n ?_
     refine CK.seq ?_
     refine CK.seq ?_
     refine CK.reg (ks := []) (.fl 0 (.fl 1 (.nil))) rfl ?_
     refine OKS.rm rfl rfl rfl rfl rfl f288 ?_
     refine OKS.r rfl rfl rfl rfl (fun _ => Runs.geq rfl rfl rfl) ?_
     refine OKS.e ?_
     refine thenQ_n ?_
     by_cases c293 : 0 ≤ y283
     ·have hm294 := hm291; rw [if_pos c293] at hm294; replace c293 := Hid.mk c293
      refine CK.condT (decT c293.out) ?_
      refine CK.seq ?_
      refine CK.reg (ks := []) (.fl 0 (.fl 1 (.nil))) rfl ?_
      refine OKS.ra rfl rfl rfl rfl rfl rfl ?_
      refine OKS.ra rfl rfl rfl rfl rfl rfl ?_
      refine OKS.e ?_
      refine thenQ_n ?_
      refine CK.ret ?_
      refine thenQ_r ?_
      cases hm294
      exact ⟨rfl, _, (res2 rfl rfl), φ284, _, hS286, rfl, rfl⟩
     ·have hm295 := hm291; rw [if_neg c293] at hm295; replace c293 := Hid.mk c293
      refine CK.condF (decF c293.out) ?_
      refine CK.skip ?_
      refine thenQ_n ?_
      refine CK.seq ?_
      refine CK.reg (ks := []) (.fl 0 (.fl 1 (.fl 2 (.nil)))) rfl ?_
      refine OKS.rm rfl rfl rfl rfl rfl f288 ?_
      refine OKS.ra rfl rfl rfl rfl rfl rfl ?_
      refine OKS.ra rfl rfl rfl rfl rfl rfl ?_
      refine OKS.e ?_
      refine thenQ_n ?_
      refine CK.ret ?_
      cases hm295
      exact ⟨rfl, _, (res2 rfl rfl), φ284, _, hS286, rfl, rfl⟩
  ·have hm296 := hm15; rw [if_neg c23] at hm296; replace c23 := Hid.mk c23
   refine CK.condT (congrArg (fun b => Value.bool (!b)) (Bool.eq_false_iff.2 c23.out)) ?_
   refine CK.seq ?_
   refine CK.reg (ks := []) (.fl 0 (.fl 1 (.nil))) rfl ?_
   refine OKS.ra rfl rfl rfl rfl rfl rfl ?_
   refine OKS.ra rfl rfl rfl rfl rfl rfl ?_
   refine OKS.e ?_
   refine thenQ_n ?_
   refine CK.ret ?_
   refine blockQ_r ?_
   refine thenQ_r ?_
   cases hm296
   exact ⟨rfl, _, (res2 rfl rfl), φ16, _, hS22, rfl, rfl⟩
 ·have hm297 := hm3; rw [if_neg c11] at hm297; replace c11 := Hid.mk c11
  refine CK.condT (decT c11.out) ?_
  refine CK.seq ?_
  refine CK.reg (ks := []) (.fl 0 (.fl 1 (.fl 2 (.nil)))) rfl ?_
  refine OKS.rm rfl rfl rfl rfl rfl rfl ?_
  refine OKS.ra rfl rfl rfl rfl rfl rfl ?_
  refine OKS.ra rfl rfl rfl rfl rfl rfl ?_
  refine OKS.e ?_
  refine thenQ_n ?_
  refine CK.ret ?_
  refine blockQ_r ?_
  refine thenQ_r ?_
  cases hm297
  exact ⟨rfl, _, (res2 rfl rfl), φ4, _, hS10, rfl, rfl⟩
end Go.Proofs.Ytaoaelhmiggepaa
