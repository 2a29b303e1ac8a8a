/- Walks, printed by a program: each function does what its model says. -/
import Derived.Test.YtaoaelhmiggepaaEnc
import Derived.Test.YtaoaelhmiggepaaW0
namespace Go.Proofs.Ytaoaelhmiggepaa
open Go.KL
set_option maxHeartbeats 4000000 in
theorem w_target_distances (p0 : Int) (p1 : List T_target_link) (pA1 : Option Addr) (pc1 : Nat) (w : World) (φ : PHeap) (hS : St ⟨w, [], φ⟩ φ [] w) (ha0 : SlR φ rl134 pA1 pc1 p1) {r : (Arr Int 81) × Bool} (hm : m_target_distances p0 p1 = some r) : Gv Try.prog 65 [.int .i64 p0, .slice pA1 p1.length pc1] w (RetS w [] φ (fun φ_ L_ v => v = .tuple #[.agg (List.flatMap encI r.1.l).toArray, .bool r.2] ∧ L_ = [])) := by
 unfold m_target_distances at hm
 refine Gv.of Try.func65 rfl Try.ntmps65 Try.results65 rfl ?_
 refine CK.seq ?_
 refine CK.reg (ks := []) (.fx 0 (.fl 1 (.nil)) .stop) rfl ?_
 refine OKS.alloc (cs := List.flatMap encI (Arr.fill 81 0).l) rfl rfl rfl rfl rfl Try.zeroValue124 rfl hS ?_
 intro W1 b2 hS3
 have hS5 : St ⟨w, [], φ⟩ φ [.blk b2 124 (List.flatMap encI (Arr.fill 81 0).l)] W1 := hS3
 refine OKS.ra rfl rfl rfl rfl rfl rfl ?_
 refine OKS.e ?_
 refine thenQ_n ?_
 refine CK.seq ?_
 refine CK.reg (ks := []) (.fx 0 (.nil) .stop) rfl ?_
 refine OKS.alloc (cs := List.flatMap encI (Arr.fill 81 0).l) rfl rfl rfl rfl rfl Try.zeroValue124 rfl hS5 ?_
 intro W6 b7 hS8
 have hS10 : St ⟨w, [], φ⟩ φ [.blk b7 124 (List.flatMap encI (Arr.fill 81 0).l), .blk b2 124 (List.flatMap encI (Arr.fill 81 0).l)] W6 := hS8
 refine OKS.e ?_
 refine thenQ_n ?_
 refine CK.seq ?_
 refine CK.seq ?_
 refine CK.reg (ks := []) (.fl 0 (.nil)) rfl ?_
 refine OKS.rm rfl rfl rfl rfl rfl rfl ?_
 refine OKS.e ?_
 refine thenQ_n ?_
 refine CK.block ?_
 have q := bnd hm
 obtain ⟨y22, hf19, hm18⟩ := q
 have q := forR'_le hf19
 obtain ⟨hle20, hf21⟩ := q
 replace hle20 := Hid.mk hle20
 refine CK.forN' (fun k17 a16 σ_ w_ => ∃ (φ_ : PHeap), σ_ 15 = .int .i64 (↑k17 : Int) ∧ σ_ 0 = .int .i64 p0 ∧ σ_ 1 = .slice pA1 p1.length pc1 ∧ σ_ 4 = .pointer (some ⟨b2, 0, none⟩) ∧ σ_ 6 = .pointer (some ⟨b7, 0, none⟩) ∧ PHeap.Le φ φ_ ∧ St ⟨w, [], φ⟩ φ_ [.blk b7 124 (List.flatMap encI a16.l), .blk b2 124 (List.flatMap encI (Arr.fill 81 0).l)] w_) hf21 ?_ ?_ ?_
 ·exact ⟨φ, rfl, rfl, rfl, rfl, rfl, (PHeap.Le.refl _), hS10⟩
 ·rintro k17 a16 xx25 σ23 W24 hk28 ⟨φ30, fi29, f33, f34, f35, f36, le31, hS32⟩ hx26
  have c37 : Hid ((↑k17 : Int) < 9) := Hid.mk (lp_lt0 hk28)
  replace hk28 := Hid.mk hk28
  have hi38 : Hid (w64 ((↑k17 : Int) + 1) = (↑(k17 + 1) : Int)) := Hid.mk (by have h1 := hle20.out; have h2 := c37.out; rw [w64_in] <;> omega)
  refine CK.seq ?_
  refine CK.reg (ks := []) (.fl 0 (.nil)) rfl ?_
  refine OKS.r rfl rfl rfl rfl (fun _ => Runs.lss rfl fi29 rfl) ?_
  refine OKS.e ?_
  refine thenQ_n ?_
  refine CK.seq ?_
  refine CK.condT (decT c37.out) ?_
  refine CK.skip ?_
  refine thenQ_n ?_
  refine CK.seq ?_
  refine CK.block ?_
  refine CK.seq ?_
  refine CK.reg (ks := []) (.fl 0 (.fl 1 (.nil))) rfl ?_
  refine OKS.rm rfl rfl rfl rfl rfl fi29 ?_
  refine OKS.ra rfl rfl rfl rfl rfl rfl ?_
  refine OKS.e ?_
  refine thenQ_n ?_
  refine CK.seq ?_
  refine CK.reg (ks := []) (.fl 0 (.nil)) rfl ?_
  refine OKS.rm rfl rfl rfl rfl rfl rfl ?_
  refine OKS.e ?_
  refine thenQ_n ?_
  refine CK.block ?_
  have q := bnd hx26
  obtain ⟨y50, hf47, hm46⟩ := q
  have q := forR'_le hf47
  obtain ⟨hle48, hf49⟩ := q
  replace hle48 := Hid.mk hle48
  refine CK.forN' (fun k45 a44 σ_ w_ => ∃ (φ_ : PHeap), σ_ 18 = .int .i64 (↑k45 : Int) ∧ σ_ 0 = .int .i64 p0 ∧ σ_ 1 = .slice pA1 p1.length pc1 ∧ σ_ 4 = .pointer (some ⟨b2, 0, none⟩) ∧ σ_ 6 = .pointer (some ⟨b7, 0, none⟩) ∧ σ_ 7 = .int .i64 (↑k17 : Int) ∧ σ_ 15 = .int .i64 (↑k17 : Int) ∧ PHeap.Le φ30 φ_ ∧ St ⟨w, [], φ⟩ φ_ [.blk b7 124 (List.flatMap encI a44.l), .blk b2 124 (List.flatMap encI (Arr.fill 81 0).l)] w_) hf49 ?_ ?_ ?_
  ·exact ⟨φ30, rfl, f33, f34, f35, f36, rfl, fi29, (PHeap.Le.refl _), hS32⟩
  ·rintro k45 a44 xx53 σ51 W52 hk56 ⟨φ58, fi57, f61, f62, f63, f64, f65, f66, le59, hS60⟩ hx54
   have c67 : Hid ((↑k45 : Int) < 9) := Hid.mk (lp_lt0 hk56)
   replace hk56 := Hid.mk hk56
   have hi68 : Hid (w64 ((↑k45 : Int) + 1) = (↑(k45 + 1) : Int)) := Hid.mk (by have h1 := hle48.out; have h2 := c67.out; rw [w64_in] <;> omega)
   refine CK.seq ?_
   refine CK.reg (ks := []) (.fl 0 (.nil)) rfl ?_
   refine OKS.r rfl rfl rfl rfl (fun _ => Runs.lss rfl fi57 rfl) ?_
   refine OKS.e ?_
   refine thenQ_n ?_
   refine CK.seq ?_
   refine CK.condT (decT c67.out) ?_
   refine CK.skip ?_
   refine thenQ_n ?_
   refine CK.seq ?_
   refine CK.block ?_
   refine CK.seq ?_
   refine CK.reg (ks := []) (.fl 0 (.fl 1 (.nil))) rfl ?_
   refine OKS.rm rfl rfl rfl rfl rfl fi57 ?_
   refine OKS.ra rfl rfl rfl rfl rfl rfl ?_
   refine OKS.e ?_
   refine thenQ_n ?_
   refine CK.seq ?_
   refine CK.reg (ks := []) (.fl 0 (.fl 1 (.fl 2 (.nil)))) rfl ?_
   refine OKS.rm rfl rfl rfl rfl rfl f65 ?_
   refine OKS.rm rfl rfl rfl rfl rfl rfl ?_
   refine OKS.r rfl rfl rfl rfl (fun _ => Runs.neq rfl rfl rfl) ?_
   refine OKS.e ?_
   refine thenQ_n ?_
   by_cases c69 : (↑k17 : Int) = (↑k45 : Int)
   ·have hm70 := hx54; rw [if_pos c69] at hm70; replace c69 := Hid.mk c69
    refine CK.condF (decF (fun h => h c69.out)) ?_
    refine CK.skip ?_
    refine blockQ_n ?_
    refine thenQ_n ?_
    refine CK.reg (ks := []) (.fl 0 (.fl 1 (.nil))) rfl ?_
    refine OKS.r rfl rfl rfl rfl (fun _ => Runs.to (Runs.addw rfl fi57 rfl) (congrArg (Value.int .i64) hi68.out)) ?_
    refine OKS.rm rfl rfl rfl rfl rfl rfl ?_
    refine OKS.e ?_
    cases hm70
    exact thenQ_n ⟨rfl, ⟨φ58, rfl, f61, f62, f63, f64, f65, f66, le59, hS60⟩⟩
   ·have hm72 := hx54; rw [if_neg c69] at hm72; replace c69 := Hid.mk c69
    refine CK.condT (decT c69.out) ?_
    refine CK.reg (ks := []) (.fl 0 (.fl 1 (.fl 2 (.fl 3 (.fx 4 (.nil) .stop))))) rfl ?_
    refine OKS.rm rfl rfl rfl rfl rfl f65 ?_
    refine OKS.rm rfl rfl rfl rfl rfl rfl ?_
    have q := bnd hm72
    obtain ⟨_, h73, hm74⟩ := q
    refine OKS.r rfl rfl rfl rfl (fun _ => Runs.iaA rfl f64 rfl Try.runUnderlying124 Try.sizeOf123 (chk_lo h73) (chk_hi h73)) ?_
    have q := bnd hm74
    obtain ⟨_, h75, hm76⟩ := q
    refine OKS.r rfl rfl rfl rfl (fun _ => Runs.iaA rfl rfl rfl Try.runUnderlying123 Try.sizeOf3 (chk_lo h75) (chk_hi h75)) ?_
    have hg77 := Arr.at_ a44 (k := (k17 * 9 + k45)) (by have hz0 := chk_lt h73; have hz1 := chk_lt h75; omega)
    refine OKS.st (j := 0) (vs := [.int .i64 1048576]) (cs' := List.flatMap encI (a44.set (k17 * 9 + k45) 1048576).l) rfl rfl rfl rfl hS60 rfl rfl rfl rfl Try.sizeOf3 (by have hz0 := chk_lt h73; have hz1 := chk_lt h75; simp only [List.length_append, List.length_cons, List.length_nil, whole_len (f := encI) (sz := 1) (N := 81) a44 (fun _ => rfl) rfl]; omega) rfl (setN_at (sz := 1) (fo := 0) (fun _ => rfl) _ _ _ _ hg77 (by first | omega | rfl) (Nat.le_of_ble_eq_true rfl) rfl) rfl ?_
    intro W78 hS79
    have hS80 : St ⟨w, [], φ⟩ φ58 [.blk b7 124 (List.flatMap encI (a44.set (k17 * 9 + k45) 1048576).l), .blk b2 124 (List.flatMap encI (Arr.fill 81 0).l)] W78 := hS79
    refine OKS.e ?_
    refine blockQ_n ?_
    refine thenQ_n ?_
    refine CK.reg (ks := []) (.fl 0 (.fl 1 (.nil))) rfl ?_
    refine OKS.r rfl rfl rfl rfl (fun _ => Runs.to (Runs.addw rfl fi57 rfl) (congrArg (Value.int .i64) hi68.out)) ?_
    refine OKS.rm rfl rfl rfl rfl rfl rfl ?_
    refine OKS.e ?_
    cases hm76
    exact thenQ_n ⟨rfl, ⟨φ58, rfl, f61, f62, f63, f64, f65, f66, le59, hS80⟩⟩
  ·rintro σ82 W83 ⟨φ87, fi85, f90, f91, f92, f93, f94, f95, le88, hS89⟩
   have c96 : Hid (¬ ((↑((9 : Int) - 0).toNat : Int) < 9)) := Hid.mk (lp_end0)
   refine CK.seq ?_
   refine CK.reg (ks := []) (.fl 0 (.nil)) rfl ?_
   refine OKS.r rfl rfl rfl rfl (fun _ => Runs.lss rfl fi85 rfl) ?_
   refine OKS.e ?_
   refine thenQ_n ?_
   refine CK.seq ?_
   refine CK.condF (decF c96.out) ?_
   refine CK.exit ?_
   refine thenQ_e ?_
   refine thenQ_e ?_
   refine blockQ_h ?_
   refine blockQ_n ?_
   refine thenQ_n ?_
   refine CK.reg (ks := []) (.fl 0 (.fl 1 (.nil))) rfl ?_
   refine OKS.r rfl rfl rfl rfl (fun _ => Runs.to (Runs.addw rfl f95 rfl) (congrArg (Value.int .i64) hi38.out)) ?_
   refine OKS.rm rfl rfl rfl rfl rfl rfl ?_
   refine OKS.e ?_
   cases hm46
   exact thenQ_n ⟨rfl, ⟨φ87, rfl, f90, f91, f92, f93, (le31.trans le88), hS89⟩⟩
 ·rintro σ98 W99 ⟨φ103, fi101, f106, f107, f108, f109, le104, hS105⟩
  have c110 : Hid (¬ ((↑((9 : Int) - 0).toNat : Int) < 9)) := Hid.mk (lp_end0)
  refine CK.seq ?_
  refine CK.reg (ks := []) (.fl 0 (.nil)) rfl ?_
  refine OKS.r rfl rfl rfl rfl (fun _ => Runs.lss rfl fi101 rfl) ?_
  refine OKS.e ?_
  refine thenQ_n ?_
  refine CK.seq ?_
  refine CK.condF (decF c110.out) ?_
  refine CK.exit ?_
  refine thenQ_e ?_
  refine thenQ_e ?_
  refine blockQ_h ?_
  refine thenQ_n ?_
  refine CK.seq ?_
  refine CK.seq ?_
  refine CK.reg (ks := []) (.fl 0 (.fl 1 (.fl 2 (.nil)))) rfl ?_
  refine OKS.rm rfl rfl rfl rfl rfl f107 ?_
  refine OKS.r rfl rfl rfl rfl (fun _ => Runs.len rfl rfl Try.runUnderlying127) ?_
  refine OKS.rm rfl rfl rfl rfl rfl rfl ?_
  refine OKS.e ?_
  refine thenQ_n ?_
  refine CK.block ?_
  have q := bnd hm18
  obtain ⟨y122, hf119, hm118⟩ := q
  have q := forR'_le hf119
  obtain ⟨hle120, hf121⟩ := q
  replace hle120 := Hid.mk hle120
  refine CK.forN' (fun k117 a116 σ_ w_ => ∃ (φ_ : PHeap), σ_ 32 = .int .i64 (↑k117 : Int) ∧ σ_ 0 = .int .i64 p0 ∧ σ_ 4 = .pointer (some ⟨b2, 0, none⟩) ∧ σ_ 6 = .pointer (some ⟨b7, 0, none⟩) ∧ σ_ 30 = .slice pA1 p1.length pc1 ∧ σ_ 31 = .int .i64 (↑p1.length : Int) ∧ PHeap.Le φ103 φ_ ∧ St ⟨w, [], φ⟩ φ_ [.blk b7 124 (List.flatMap encI a116.l), .blk b2 124 (List.flatMap encI (Arr.fill 81 0).l)] w_) hf121 ?_ ?_ ?_
  ·exact ⟨φ103, rfl, f106, f108, f109, rfl, rfl, (PHeap.Le.refl _), hS105⟩
  ·rintro k117 a116 xx125 σ123 W124 hk128 ⟨φ130, fi129, f133, f134, f135, f136, f137, le131, hS132⟩ hx126
   have c138 : Hid ((↑k117 : Int) < (↑p1.length : Int)) := Hid.mk (lp_lt0 hk128)
   replace hk128 := Hid.mk hk128
   have hi139 : Hid (w64 ((↑k117 : Int) + 1) = (↑(k117 + 1) : Int)) := Hid.mk (by have h1 := hle120.out; have h2 := c138.out; rw [w64_in] <;> omega)
   refine CK.seq ?_
   refine CK.reg (ks := []) (.fl 0 (.nil)) rfl ?_
   refine OKS.r rfl rfl rfl rfl (fun _ => Runs.lss rfl fi129 f137) ?_
   refine OKS.e ?_
   refine thenQ_n ?_
   refine CK.seq ?_
   refine CK.condT (decT c138.out) ?_
   refine CK.skip ?_
   refine thenQ_n ?_
   refine CK.seq ?_
   refine CK.block ?_
   refine CK.seq ?_
   refine CK.reg (ks := []) (.fl 0 (.fl 1 (.fx 2 (.fx 3 (.nil) .stop) .stop))) rfl ?_
   have q := bnd hx126
   obtain ⟨x140, h141, hm142⟩ := q
   have h143 := ha0.le le104
   have h144 := h143.le le131
   have q := h144.el (idx_get h141)
   obtain ⟨b145, off146, vs149, hA147, hC148, hr150⟩ := q
   obtain ⟨pv151, rfl, h152⟩ := hr150
   replace hC148 : Cl φ130 b145 (off146 + k117 * 5) [.int .i64 x140.Step.Kind, .int .i64 x140.Step.Index, .int .i64 x140.from_, .int .i64 x140.to_, pv151] := hC148
   refine OKS.r rfl rfl rfl rfl (fun _ => Runs.iaN rfl f136 hA147 fi129 Try.runUnderlying127 Try.sizeOf134 (idx_lt h141)) ?_
   refine OKS.m rfl rfl rfl rfl (hS132.ldCA (f := 0) hC148 rfl rfl Try.isAgg134 Try.sizeOf134 (us := [.int .i64 x140.Step.Kind, .int .i64 x140.Step.Index, .int .i64 x140.from_, .int .i64 x140.to_, pv151]) rfl rfl) rfl ?_
   refine OKS.alloc (cs := [.int .i64 0, .int .i64 0, .int .i64 0, .int .i64 0, .nilFunc]) rfl rfl rfl rfl rfl Try.zeroValue134 rfl hS132 ?_
   intro W153 b154 hS155
   have q := id h152
   obtain ⟨fid157, fst158, cap159, he160, _⟩ := q
   subst he160
   refine OKS.st (j := 0) (vs := [.int .i64 x140.Step.Kind, .int .i64 x140.Step.Index, .int .i64 x140.from_, .int .i64 x140.to_, (.func (.func fid157) (List.toArray fst158) (List.toArray cap159))]) rfl rfl rfl rfl hS155 rfl rfl rfl rfl Try.sizeOf134 (Nat.le_of_ble_eq_true rfl) rfl rfl rfl ?_
   intro W161 hS162
   have hS163 : St ⟨w, [], φ⟩ φ130 [.blk b154 134 [.int .i64 x140.Step.Kind, .int .i64 x140.Step.Index, .int .i64 x140.from_, .int .i64 x140.to_, (.func (.func fid157) (List.toArray fst158) (List.toArray cap159))], .blk b7 124 (List.flatMap encI a116.l), .blk b2 124 (List.flatMap encI (Arr.fill 81 0).l)] W161 := hS162
   refine OKS.e ?_
   refine thenQ_n ?_
   refine CK.anyOrd Try.mixed [3, 1, 3, 1, 3, 1, 3, 1, 3, 3, 1, 3, 1, 2, 3, 3, 3, 0] (.fl 0 (.fl 1 (.fl 2 (.fl 3 (.fl 4 (.fl 5 (.fl 6 (.fl 7 (.fl 8 (.fl 9 (.fl 10 (.fl 11 (.fl 12 (.fl 15 (.fx 13 (.fl 14 (.fl 16 (.fx 17 (.nil) .stop))) .stop))))))))))))))) (by kernel_rfl) ?_
   have hS164 := hS163.drew
   generalize hw_W165 : ({ W161 with drawn := W161.drawn + 1 } : World) = W165 at hS164 ⊢
   refine OKS.r rfl rfl rfl rfl (fun _ => Runs.fa rfl rfl Try.runUnderlying134 rfl Try.sizeOf3) ?_
   refine OKS.m rfl rfl rfl rfl (hS164.ldB (j := 0) rfl rfl rfl Try.isAgg3 (v := .int .i64 x140.from_) rfl) rfl ?_
   refine OKS.r rfl rfl rfl rfl (fun _ => Runs.fa rfl rfl Try.runUnderlying134 rfl Try.sizeOf3) ?_
   refine OKS.m rfl rfl rfl rfl (hS164.ldB (j := 0) rfl rfl rfl Try.isAgg3 (v := .int .i64 x140.to_) rfl) rfl ?_
   refine OKS.r rfl rfl rfl rfl (fun _ => Runs.fa rfl rfl Try.runUnderlying134 rfl Try.sizeOf3) ?_
   refine OKS.m rfl rfl rfl rfl (hS164.ldB (j := 0) rfl rfl rfl Try.isAgg3 (v := .int .i64 x140.from_) rfl) rfl ?_
   refine OKS.r rfl rfl rfl rfl (fun _ => Runs.fa rfl rfl Try.runUnderlying134 rfl Try.sizeOf3) ?_
   refine OKS.m rfl rfl rfl rfl (hS164.ldB (j := 0) rfl rfl rfl Try.isAgg3 (v := .int .i64 x140.to_) rfl) rfl ?_
   have q := bnd hm142
   obtain ⟨_, h166, hm167⟩ := q
   refine OKS.r rfl rfl rfl rfl (fun _ => Runs.iaA rfl f135 rfl Try.runUnderlying124 Try.sizeOf123 (chk_lo h166) (chk_hi h166)) ?_
   have q := bnd hm167
   obtain ⟨_, h168, hm169⟩ := q
   refine OKS.r rfl rfl rfl rfl (fun _ => Runs.iaA rfl rfl rfl Try.runUnderlying123 Try.sizeOf3 (chk_lo h168) (chk_hi h168)) ?_
   have hg170 := Arr.at_ a116 (k := (x140.from_.toNat * 9 + x140.to_.toNat)) (by have hz0 := chk_lt h166; have hz1 := chk_lt h168; omega)
   refine OKS.m rfl rfl rfl rfl (hS164.ldB (j := 1) rfl rfl rfl Try.isAgg3 (flatMap_cell (sz := 1) (fun _ => rfl) _ _ 0 _ hg170 (by first | omega | rfl) rfl)) rfl ?_
   refine OKS.r rfl rfl rfl rfl (fun _ => Runs.fa rfl rfl Try.runUnderlying134 rfl Try.sizeOf132) ?_
   refine OKS.m rfl rfl rfl rfl (hS164.ldB (j := 0) rfl rfl rfl Try.isAgg132 (v := (.func (.func fid157) (List.toArray fst158) (List.toArray cap159))) rfl) rfl ?_
   refine OKS.r rfl rfl rfl rfl (fun _ => Runs.iaA rfl f135 rfl Try.runUnderlying124 Try.sizeOf123 (chk_lo h166) (chk_hi h166)) ?_
   have q := bnd hm169
   obtain ⟨x171, h172, hm173⟩ := q
   refine OKS.callV (a := ()) rfl rfl rfl rfl rfl rfl mapnil hS164 h152 rfl h172 ?_
   rintro φ174 L175 v176 W177 le178 hS179 ⟨rfl, rfl⟩
   have hS180 : St ⟨w, [], φ⟩ φ174 [.blk b154 134 [.int .i64 x140.Step.Kind, .int .i64 x140.Step.Index, .int .i64 x140.from_, .int .i64 x140.to_, (.func (.func fid157) (List.toArray fst158) (List.toArray cap159))], .blk b7 124 (List.flatMap encI a116.l), .blk b2 124 (List.flatMap encI (Arr.fill 81 0).l)] W177 := hS179
   refine OKS.r rfl rfl rfl rfl (fun _ => Runs.min rfl rfl rfl) ?_
   refine OKS.r rfl rfl rfl rfl (fun _ => Runs.iaA rfl rfl rfl Try.runUnderlying123 Try.sizeOf3 (chk_lo h168) (chk_hi h168)) ?_
   have hg181 := Arr.at_ a116 (k := (x140.from_.toNat * 9 + x140.to_.toNat)) (by have hz0 := chk_lt h166; have hz1 := chk_lt h168; omega)
   refine OKS.st (j := 1) (vs := [.int .i64 (min (a116.get (x140.from_.toNat * 9 + x140.to_.toNat)) x171)]) (cs' := List.flatMap encI (a116.set (x140.from_.toNat * 9 + x140.to_.toNat) (min (a116.get (x140.from_.toNat * 9 + x140.to_.toNat)) x171)).l) rfl rfl rfl rfl hS180 rfl rfl rfl rfl Try.sizeOf3 (by have hz0 := chk_lt h166; have hz1 := chk_lt h168; simp only [List.length_append, List.length_cons, List.length_nil, whole_len (f := encI) (sz := 1) (N := 81) a116 (fun _ => rfl) rfl]; omega) rfl (setN_at (sz := 1) (fo := 0) (fun _ => rfl) _ _ _ _ hg181 (by first | omega | rfl) (Nat.le_of_ble_eq_true rfl) rfl) rfl ?_
   intro W182 hS183
   have hS184 : St ⟨w, [], φ⟩ φ174 [.blk b154 134 [.int .i64 x140.Step.Kind, .int .i64 x140.Step.Index, .int .i64 x140.from_, .int .i64 x140.to_, (.func (.func fid157) (List.toArray fst158) (List.toArray cap159))], .blk b7 124 (List.flatMap encI (a116.set (x140.from_.toNat * 9 + x140.to_.toNat) (min (a116.get (x140.from_.toNat * 9 + x140.to_.toNat)) x171)).l), .blk b2 124 (List.flatMap encI (Arr.fill 81 0).l)] W182 := hS183
   refine OKS.e ?_
   refine blockQ_n ?_
   refine thenQ_n ?_
   refine CK.reg (ks := []) (.fl 0 (.fl 1 (.nil))) rfl ?_
   refine OKS.r rfl rfl rfl rfl (fun _ => Runs.to (Runs.addw rfl fi129 rfl) (congrArg (Value.int .i64) hi139.out)) ?_
   refine OKS.rm rfl rfl rfl rfl rfl rfl ?_
   refine OKS.e ?_
   cases hm173
   exact thenQ_n ⟨rfl, ⟨φ174, rfl, f133, f134, f135, f136, f137, (le131.trans le178), (hS184.pick [1, 2] _ (by decide) rfl)⟩⟩
  ·rintro σ186 W187 ⟨φ191, fi189, f194, f195, f196, f197, f198, le192, hS193⟩
   have c199 : Hid (¬ ((↑(((↑p1.length : Int) : Int) - 0).toNat : Int) < (↑p1.length : Int))) := Hid.mk (lp_end0)
   refine CK.seq ?_
   refine CK.reg (ks := []) (.fl 0 (.nil)) rfl ?_
   refine OKS.r rfl rfl rfl rfl (fun _ => Runs.lss rfl fi189 f198) ?_
   refine OKS.e ?_
   refine thenQ_n ?_
   refine CK.seq ?_
   refine CK.condF (decF c199.out) ?_
   refine CK.exit ?_
   refine thenQ_e ?_
   refine thenQ_e ?_
   refine blockQ_h ?_
   refine thenQ_n ?_
   refine CK.seq ?_
   refine CK.seq ?_
   refine CK.reg (ks := []) (.fl 0 (.fl 1 (.fl 2 (.nil)))) rfl ?_
   refine OKS.rm rfl rfl rfl rfl rfl f194 ?_
   refine OKS.r rfl rfl rfl rfl (fun _ => Runs.addw rfl rfl rfl) ?_
   refine OKS.rm rfl rfl rfl rfl rfl rfl ?_
   refine OKS.e ?_
   refine thenQ_n ?_
   refine CK.block ?_
   have q := bnd hm118
   obtain ⟨y211, hf208, hm207⟩ := q
   have q := forR'_le hf208
   obtain ⟨hle209, hf210⟩ := q
   replace hle209 := Hid.mk hle209
   refine CK.forN' (fun k206 a205 σ_ w_ => ∃ (φ_ : PHeap), σ_ 56 = .int .i64 (↑k206 : Int) ∧ σ_ 0 = .int .i64 p0 ∧ σ_ 4 = .pointer (some ⟨b2, 0, none⟩) ∧ σ_ 6 = .pointer (some ⟨b7, 0, none⟩) ∧ σ_ 55 = .int .i64 (w64 (p0 + 1)) ∧ PHeap.Le φ191 φ_ ∧ St ⟨w, [], φ⟩ φ_ [.blk b7 124 (List.flatMap encI a205.l), .blk b2 124 (List.flatMap encI (Arr.fill 81 0).l)] w_) hf210 ?_ ?_ ?_
   ·exact ⟨φ191, rfl, f194, f195, f196, rfl, (PHeap.Le.refl _), hS193⟩
   ·rintro k206 a205 xx214 σ212 W213 hk217 ⟨φ219, fi218, f222, f223, f224, f225, le220, hS221⟩ hx215
    have c226 : Hid ((↑k206 : Int) < (w64 (p0 + 1))) := Hid.mk (lp_lt0 hk217)
    replace hk217 := Hid.mk hk217
    have hi227 : Hid (w64 ((↑k206 : Int) + 1) = (↑(k206 + 1) : Int)) := Hid.mk (by have h1 := hle209.out; have h2 := c226.out; rw [w64_in] <;> omega)
    refine CK.seq ?_
    refine CK.reg (ks := []) (.fl 0 (.nil)) rfl ?_
    refine OKS.r rfl rfl rfl rfl (fun _ => Runs.lss rfl fi218 f225) ?_
    refine OKS.e ?_
    refine thenQ_n ?_
    refine CK.seq ?_
    refine CK.condT (decT c226.out) ?_
    refine CK.skip ?_
    refine thenQ_n ?_
    refine CK.seq ?_
    refine CK.block ?_
    refine CK.seq ?_
    refine CK.reg (ks := []) (.fl 0 (.fl 1 (.nil))) rfl ?_
    refine OKS.rm rfl rfl rfl rfl rfl fi218 ?_
    refine OKS.ra rfl rfl rfl rfl rfl rfl ?_
    refine OKS.e ?_
    refine thenQ_n ?_
    refine CK.seq ?_
    refine CK.reg (ks := []) (.fl 0 (.fl 1 (.fl 2 (.nil)))) rfl ?_
    refine OKS.rm rfl rfl rfl rfl rfl f222 ?_
    refine OKS.r rfl rfl rfl rfl (fun _ => Runs.addw rfl rfl rfl) ?_
    refine OKS.rm rfl rfl rfl rfl rfl rfl ?_
    refine OKS.e ?_
    refine thenQ_n ?_
    refine CK.block ?_
    have q := bnd hx215
    obtain ⟨y239, hf236, hm235⟩ := q
    have q := forR'_le hf236
    obtain ⟨hle237, hf238⟩ := q
    replace hle237 := Hid.mk hle237
    refine CK.forN' (fun k234 a233 σ_ w_ => ∃ (φ_ : PHeap), σ_ 61 = .int .i64 (↑k234 : Int) ∧ σ_ 0 = .int .i64 p0 ∧ σ_ 4 = .pointer (some ⟨b2, 0, none⟩) ∧ σ_ 6 = .pointer (some ⟨b7, 0, none⟩) ∧ σ_ 11 = .int .i64 (↑k206 : Int) ∧ σ_ 55 = .int .i64 (w64 (p0 + 1)) ∧ σ_ 56 = .int .i64 (↑k206 : Int) ∧ σ_ 60 = .int .i64 (w64 (p0 + 1)) ∧ PHeap.Le φ219 φ_ ∧ St ⟨w, [], φ⟩ φ_ [.blk b7 124 (List.flatMap encI a233.l), .blk b2 124 (List.flatMap encI (Arr.fill 81 0).l)] w_) hf238 ?_ ?_ ?_
    ·exact ⟨φ219, rfl, f222, f223, f224, rfl, f225, fi218, rfl, (PHeap.Le.refl _), hS221⟩
    ·rintro k234 a233 xx242 σ240 W241 hk245 ⟨φ247, fi246, f250, f251, f252, f253, f254, f255, f256, le248, hS249⟩ hx243
     have c257 : Hid ((↑k234 : Int) < (w64 (p0 + 1))) := Hid.mk (lp_lt0 hk245)
     replace hk245 := Hid.mk hk245
     have hi258 : Hid (w64 ((↑k234 : Int) + 1) = (↑(k234 + 1) : Int)) := Hid.mk (by have h1 := hle237.out; have h2 := c257.out; rw [w64_in] <;> omega)
     refine CK.seq ?_
     refine CK.reg (ks := []) (.fl 0 (.nil)) rfl ?_
     refine OKS.r rfl rfl rfl rfl (fun _ => Runs.lss rfl fi246 f256) ?_
     refine OKS.e ?_
     refine thenQ_n ?_
     refine CK.seq ?_
     refine CK.condT (decT c257.out) ?_
     refine CK.skip ?_
     refine thenQ_n ?_
     refine CK.seq ?_
     refine CK.block ?_
     refine CK.seq ?_
     refine CK.reg (ks := []) (.fl 0 (.fl 1 (.nil))) rfl ?_
     refine OKS.rm rfl rfl rfl rfl rfl fi246 ?_
     refine OKS.ra rfl rfl rfl rfl rfl rfl ?_
     refine OKS.e ?_
     refine thenQ_n ?_
     refine CK.seq ?_
     refine CK.reg (ks := []) (.fl 0 (.fl 1 (.fl 2 (.nil)))) rfl ?_
     refine OKS.rm rfl rfl rfl rfl rfl f250 ?_
     refine OKS.r rfl rfl rfl rfl (fun _ => Runs.addw rfl rfl rfl) ?_
     refine OKS.rm rfl rfl rfl rfl rfl rfl ?_
     refine OKS.e ?_
     refine thenQ_n ?_
     refine CK.block ?_
     have q := bnd hx243
     obtain ⟨y270, hf267, hm266⟩ := q
     have q := forR'_le hf267
     obtain ⟨hle268, hf269⟩ := q
     replace hle268 := Hid.mk hle268
     refine CK.forN' (fun k265 a264 σ_ w_ => ∃ (φ_ : PHeap), σ_ 66 = .int .i64 (↑k265 : Int) ∧ σ_ 0 = .int .i64 p0 ∧ σ_ 4 = .pointer (some ⟨b2, 0, none⟩) ∧ σ_ 6 = .pointer (some ⟨b7, 0, none⟩) ∧ σ_ 11 = .int .i64 (↑k206 : Int) ∧ σ_ 12 = .int .i64 (↑k234 : Int) ∧ σ_ 55 = .int .i64 (w64 (p0 + 1)) ∧ σ_ 56 = .int .i64 (↑k206 : Int) ∧ σ_ 60 = .int .i64 (w64 (p0 + 1)) ∧ σ_ 61 = .int .i64 (↑k234 : Int) ∧ σ_ 65 = .int .i64 (w64 (p0 + 1)) ∧ PHeap.Le φ247 φ_ ∧ St ⟨w, [], φ⟩ φ_ [.blk b7 124 (List.flatMap encI a264.l), .blk b2 124 (List.flatMap encI (Arr.fill 81 0).l)] w_) hf269 ?_ ?_ ?_
     ·exact ⟨φ247, rfl, f250, f251, f252, f253, rfl, f254, f255, f256, fi246, rfl, (PHeap.Le.refl _), hS249⟩
     ·rintro k265 a264 xx273 σ271 W272 hk276 ⟨φ278, fi277, f281, f282, f283, f284, f285, f286, f287, f288, f289, f290, le279, hS280⟩ hx274
      have c291 : Hid ((↑k265 : Int) < (w64 (p0 + 1))) := Hid.mk (lp_lt0 hk276)
      replace hk276 := Hid.mk hk276
      have hi292 : Hid (w64 ((↑k265 : Int) + 1) = (↑(k265 + 1) : Int)) := Hid.mk (by have h1 := hle268.out; have h2 := c291.out; rw [w64_in] <;> omega)
      refine CK.seq ?_
      refine CK.reg (ks := []) (.fl 0 (.nil)) rfl ?_
      refine OKS.r rfl rfl rfl rfl (fun _ => Runs.lss rfl fi277 f290) ?_
      refine OKS.e ?_
      refine thenQ_n ?_
      refine CK.seq ?_
      refine CK.condT (decT c291.out) ?_
      refine CK.skip ?_
      refine thenQ_n ?_
      refine CK.seq ?_
      refine CK.block ?_
      refine CK.seq ?_
      refine CK.reg (ks := []) (.fl 0 (.fl 1 (.nil))) rfl ?_
      refine OKS.rm rfl rfl rfl rfl rfl fi277 ?_
      refine OKS.ra rfl rfl rfl rfl rfl rfl ?_
      refine OKS.e ?_
      refine thenQ_n ?_
      refine CK.anyOrd Try.mixed [3, 3, 3, 3, 3, 3, 1, 3, 3, 3, 3, 1, 3, 3, 3, 3, 1, 3, 3, 3, 3, 0] (.fl 0 (.fl 1 (.fl 2 (.fl 3 (.fl 4 (.fl 5 (.fl 6 (.fl 7 (.fl 8 (.fl 9 (.fl 10 (.fl 11 (.fl 12 (.fl 13 (.fl 14 (.fl 15 (.fl 16 (.fl 17 (.fl 18 (.fl 19 (.fl 20 (.fx 21 (.nil) .stop)))))))))))))))))))))) (by kernel_rfl) ?_
      have hS293 := hS280.drew
      generalize hw_W294 : ({ W272 with drawn := W272.drawn + 1 } : World) = W294 at hS293 ⊢
      refine OKS.rm rfl rfl rfl rfl rfl f285 ?_
      refine OKS.rm rfl rfl rfl rfl rfl rfl ?_
      refine OKS.rm rfl rfl rfl rfl rfl f285 ?_
      refine OKS.rm rfl rfl rfl rfl rfl rfl ?_
      have q := bnd hx274
      obtain ⟨_, h295, hm296⟩ := q
      refine OKS.r rfl rfl rfl rfl (fun _ => Runs.iaA rfl f283 rfl Try.runUnderlying124 Try.sizeOf123 (chk_lo h295) (chk_hi h295)) ?_
      have q := bnd hm296
      obtain ⟨_, h297, hm298⟩ := q
      refine OKS.r rfl rfl rfl rfl (fun _ => Runs.iaA rfl rfl rfl Try.runUnderlying123 Try.sizeOf3 (chk_lo h297) (chk_hi h297)) ?_
      have hg299 := Arr.at_ a264 (k := (k234 * 9 + k265)) (by have hz0 := chk_lt h295; have hz1 := chk_lt h297; omega)
      refine OKS.m rfl rfl rfl rfl (hS293.ldB (j := 0) rfl rfl rfl Try.isAgg3 (flatMap_cell (sz := 1) (fun _ => rfl) _ _ 0 _ hg299 (by first | omega | rfl) rfl)) rfl ?_
      refine OKS.rm rfl rfl rfl rfl rfl f285 ?_
      refine OKS.rm rfl rfl rfl rfl rfl f284 ?_
      refine OKS.r rfl rfl rfl rfl (fun _ => Runs.iaA rfl f283 rfl Try.runUnderlying124 Try.sizeOf123 (chk_lo h295) (chk_hi h295)) ?_
      have q := bnd hm298
      obtain ⟨_, h300, hm301⟩ := q
      refine OKS.r rfl rfl rfl rfl (fun _ => Runs.iaA rfl rfl rfl Try.runUnderlying123 Try.sizeOf3 (chk_lo h300) (chk_hi h300)) ?_
      have hg302 := Arr.at_ a264 (k := (k234 * 9 + k206)) (by have hz0 := chk_lt h295; have hz1 := chk_lt h300; omega)
      refine OKS.m rfl rfl rfl rfl (hS293.ldB (j := 0) rfl rfl rfl Try.isAgg3 (flatMap_cell (sz := 1) (fun _ => rfl) _ _ 0 _ hg302 (by first | omega | rfl) rfl)) rfl ?_
      refine OKS.rm rfl rfl rfl rfl rfl f284 ?_
      refine OKS.rm rfl rfl rfl rfl rfl rfl ?_
      refine OKS.r rfl rfl rfl rfl (fun _ => Runs.iaA rfl f283 rfl Try.runUnderlying124 Try.sizeOf123 (chk_lo h300) (chk_hi h300)) ?_
      refine OKS.r rfl rfl rfl rfl (fun _ => Runs.iaA rfl rfl rfl Try.runUnderlying123 Try.sizeOf3 (chk_lo h297) (chk_hi h297)) ?_
      have hg303 := Arr.at_ a264 (k := (k206 * 9 + k265)) (by have hz0 := chk_lt h300; have hz1 := chk_lt h297; omega)
      refine OKS.m rfl rfl rfl rfl (hS293.ldB (j := 0) rfl rfl rfl Try.isAgg3 (flatMap_cell (sz := 1) (fun _ => rfl) _ _ 0 _ hg303 (by first | omega | rfl) rfl)) rfl ?_
      refine OKS.r rfl rfl rfl rfl (fun _ => Runs.addw rfl rfl rfl) ?_
      refine OKS.r rfl rfl rfl rfl (fun _ => Runs.min rfl rfl rfl) ?_
      refine OKS.r rfl rfl rfl rfl (fun _ => Runs.iaA rfl f283 rfl Try.runUnderlying124 Try.sizeOf123 (chk_lo h295) (chk_hi h295)) ?_
      refine OKS.r rfl rfl rfl rfl (fun _ => Runs.iaA rfl rfl rfl Try.runUnderlying123 Try.sizeOf3 (chk_lo h297) (chk_hi h297)) ?_
      have hg304 := Arr.at_ a264 (k := (k234 * 9 + k265)) (by have hz0 := chk_lt h295; have hz1 := chk_lt h297; omega)
      refine OKS.st (j := 0) (vs := [.int .i64 (min (a264.get (k234 * 9 + k265)) (w64 ((a264.get (k234 * 9 + k206)) + (a264.get (k206 * 9 + k265)))))]) (cs' := List.flatMap encI (a264.set (k234 * 9 + k265) (min (a264.get (k234 * 9 + k265)) (w64 ((a264.get (k234 * 9 + k206)) + (a264.get (k206 * 9 + k265)))))).l) rfl rfl rfl rfl hS293 rfl rfl rfl rfl Try.sizeOf3 (by have hz0 := chk_lt h295; have hz1 := chk_lt h297; simp only [List.length_append, List.length_cons, List.length_nil, whole_len (f := encI) (sz := 1) (N := 81) a264 (fun _ => rfl) rfl]; omega) rfl (setN_at (sz := 1) (fo := 0) (fun _ => rfl) _ _ _ _ hg304 (by first | omega | rfl) (Nat.le_of_ble_eq_true rfl) rfl) rfl ?_
      intro W305 hS306
      have hS307 : St ⟨w, [], φ⟩ φ278 [.blk b7 124 (List.flatMap encI (a264.set (k234 * 9 + k265) (min (a264.get (k234 * 9 + k265)) (w64 ((a264.get (k234 * 9 + k206)) + (a264.get (k206 * 9 + k265)))))).l), .blk b2 124 (List.flatMap encI (Arr.fill 81 0).l)] W305 := hS306
      refine OKS.e ?_
      refine blockQ_n ?_
      refine thenQ_n ?_
      refine CK.reg (ks := []) (.fl 0 (.fl 1 (.nil))) rfl ?_
      refine OKS.r rfl rfl rfl rfl (fun _ => Runs.to (Runs.addw rfl fi277 rfl) (congrArg (Value.int .i64) hi292.out)) ?_
      refine OKS.rm rfl rfl rfl rfl rfl rfl ?_
      refine OKS.e ?_
      cases hm301
      exact thenQ_n ⟨rfl, ⟨φ278, rfl, f281, f282, f283, f284, f285, f286, f287, f288, f289, f290, le279, hS307⟩⟩
     ·rintro σ309 W310 ⟨φ314, fi312, f317, f318, f319, f320, f321, f322, f323, f324, f325, f326, le315, hS316⟩
      have c327 : Hid (¬ ((↑((w64 (p0 + 1) : Int) - 0).toNat : Int) < (w64 (p0 + 1)))) := Hid.mk (lp_end0)
      refine CK.seq ?_
      refine CK.reg (ks := []) (.fl 0 (.nil)) rfl ?_
      refine OKS.r rfl rfl rfl rfl (fun _ => Runs.lss rfl fi312 f326) ?_
      refine OKS.e ?_
      refine thenQ_n ?_
      refine CK.seq ?_
      refine CK.condF (decF c327.out) ?_
      refine CK.exit ?_
      refine thenQ_e ?_
      refine thenQ_e ?_
      refine blockQ_h ?_
      refine blockQ_n ?_
      refine thenQ_n ?_
      refine CK.reg (ks := []) (.fl 0 (.fl 1 (.nil))) rfl ?_
      refine OKS.r rfl rfl rfl rfl (fun _ => Runs.to (Runs.addw rfl f325 rfl) (congrArg (Value.int .i64) hi258.out)) ?_
      refine OKS.rm rfl rfl rfl rfl rfl rfl ?_
      refine OKS.e ?_
      cases hm266
      exact thenQ_n ⟨rfl, ⟨φ314, rfl, f317, f318, f319, f320, f322, f323, f324, (le248.trans le315), hS316⟩⟩
    ·rintro σ329 W330 ⟨φ334, fi332, f337, f338, f339, f340, f341, f342, f343, le335, hS336⟩
     have c344 : Hid (¬ ((↑((w64 (p0 + 1) : Int) - 0).toNat : Int) < (w64 (p0 + 1)))) := Hid.mk (lp_end0)
     refine CK.seq ?_
     refine CK.reg (ks := []) (.fl 0 (.nil)) rfl ?_
     refine OKS.r rfl rfl rfl rfl (fun _ => Runs.lss rfl fi332 f343) ?_
     refine OKS.e ?_
     refine thenQ_n ?_
     refine CK.seq ?_
     refine CK.condF (decF c344.out) ?_
     refine CK.exit ?_
     refine thenQ_e ?_
     refine thenQ_e ?_
     refine blockQ_h ?_
     refine blockQ_n ?_
     refine thenQ_n ?_
     refine CK.reg (ks := []) (.fl 0 (.fl 1 (.nil))) rfl ?_
     refine OKS.r rfl rfl rfl rfl (fun _ => Runs.to (Runs.addw rfl f342 rfl) (congrArg (Value.int .i64) hi227.out)) ?_
     refine OKS.rm rfl rfl rfl rfl rfl rfl ?_
     refine OKS.e ?_
     cases hm235
     exact thenQ_n ⟨rfl, ⟨φ334, rfl, f337, f338, f339, f341, (le220.trans le335), hS336⟩⟩
   ·rintro σ346 W347 ⟨φ351, fi349, f354, f355, f356, f357, le352, hS353⟩
    have c358 : Hid (¬ ((↑((w64 (p0 + 1) : Int) - 0).toNat : Int) < (w64 (p0 + 1)))) := Hid.mk (lp_end0)
    refine CK.seq ?_
    refine CK.reg (ks := []) (.fl 0 (.nil)) rfl ?_
    refine OKS.r rfl rfl rfl rfl (fun _ => Runs.lss rfl fi349 f357) ?_
    refine OKS.e ?_
    refine thenQ_n ?_
    refine CK.seq ?_
    refine CK.condF (decF c358.out) ?_
    refine CK.exit ?_
    refine thenQ_e ?_
    refine thenQ_e ?_
    refine blockQ_h ?_
    refine thenQ_n ?_
    refine CK.seq ?_
    refine CK.seq ?_
    refine CK.reg (ks := []) (.fl 0 (.fl 1 (.fl 2 (.nil)))) rfl ?_
    refine OKS.rm rfl rfl rfl rfl rfl f354 ?_
    refine OKS.r rfl rfl rfl rfl (fun _ => Runs.addw rfl rfl rfl) ?_
    refine OKS.rm rfl rfl rfl rfl rfl rfl ?_
    refine OKS.e ?_
    refine thenQ_n ?_
    refine CK.block ?_
    have q := jn_some hm207
    obtain ⟨r361, hX362⟩ := q
    have q := forR_le hX362
    obtain ⟨hle363, hf364⟩ := q
    replace hle363 := Hid.mk hle363
    refine CK.forN (fun k360 _ σ_ w_ => ∃ (φ_ : PHeap), σ_ 95 = .int .i64 (↑k360 : Int) ∧ σ_ 4 = .pointer (some ⟨b2, 0, none⟩) ∧ σ_ 6 = .pointer (some ⟨b7, 0, none⟩) ∧ σ_ 94 = .int .i64 (w64 (p0 + 1)) ∧ PHeap.Le φ351 φ_ ∧ St ⟨w, [], φ⟩ φ_ [.blk b7 124 (List.flatMap encI y211.l), .blk b2 124 (List.flatMap encI (Arr.fill 81 0).l)] w_) hf364 ?_ ?_ ?_
    ·exact ⟨φ351, rfl, f355, f356, rfl, (PHeap.Le.refl _), hS353⟩
    ·rintro k360 ⟨⟩ xx367 σ365 W366 hk370 ⟨φ372, fi371, f375, f376, f377, le373, hS374⟩ hx368 hb369
     try dsimp only at hx368
     have c378 : Hid ((↑k360 : Int) < (w64 (p0 + 1))) := Hid.mk (lp_lt0 hk370)
     replace hk370 := Hid.mk hk370
     have hi379 : Hid (w64 ((↑k360 : Int) + 1) = (↑(k360 + 1) : Int)) := Hid.mk (by have h1 := hle363.out; have h2 := c378.out; rw [w64_in] <;> omega)
     refine CK.seq ?_
     refine CK.reg (ks := []) (.fl 0 (.nil)) rfl ?_
     refine OKS.r rfl rfl rfl rfl (fun _ => Runs.lss rfl fi371 f377) ?_
     refine OKS.e ?_
     refine thenQ_n ?_
     refine CK.seq ?_
     refine CK.condT (decT c378.out) ?_
     refine CK.skip ?_
     refine thenQ_n ?_
     refine CK.seq ?_
     refine CK.block ?_
     refine CK.seq ?_
     refine CK.reg (ks := []) (.fl 0 (.fl 1 (.nil))) rfl ?_
     refine OKS.rm rfl rfl rfl rfl rfl fi371 ?_
     refine OKS.ra rfl rfl rfl rfl rfl rfl ?_
     refine OKS.e ?_
     refine thenQ_n ?_
     refine CK.seq ?_
     refine CK.reg (ks := []) (.fl 0 (.fl 1 (.fl 2 (.fl 3 (.fl 4 (.fl 5 (.nil))))))) rfl ?_
     refine OKS.rm rfl rfl rfl rfl rfl rfl ?_
     refine OKS.rm rfl rfl rfl rfl rfl rfl ?_
     have q := bnd hx368
     obtain ⟨_, h380, hm381⟩ := q
     refine OKS.r rfl rfl rfl rfl (fun _ => Runs.iaA rfl f376 rfl Try.runUnderlying124 Try.sizeOf123 (chk_lo h380) (chk_hi h380)) ?_
     refine OKS.r rfl rfl rfl rfl (fun _ => Runs.iaA rfl rfl rfl Try.runUnderlying123 Try.sizeOf3 (chk_lo h380) (chk_hi h380)) ?_
     have hg382 := Arr.at_ y211 (k := (k360 * 9 + k360)) (by have hz0 := chk_lt h380; have hz1 := chk_lt h380; omega)
     refine OKS.m rfl rfl rfl rfl (hS374.ldB (j := 0) rfl rfl rfl Try.isAgg3 (flatMap_cell (sz := 1) (fun _ => rfl) _ _ 0 _ hg382 (by first | omega | rfl) rfl)) rfl ?_
     refine OKS.r rfl rfl rfl rfl (fun _ => Runs.lss rfl rfl rfl) ?_
     refine OKS.e ?_
     refine thenQ_n ?_
     by_cases c383 : (y211.get (k360 * 9 + k360)) < 0
     ·have hm384 := hm381; rw [if_pos c383] at hm384; replace c383 := Hid.mk c383
      refine CK.condT (decT c383.out) ?_
      refine CK.seq ?_
      refine CK.reg (ks := []) (.fl 0 (.fx 1 (.fl 2 (.nil)) .stop)) rfl ?_
      refine OKS.m rfl rfl rfl rfl (hS374.ldBA (j := 0) rfl rfl f376 Try.isAgg124 Try.sizeOf124 (vs := List.flatMap encI y211.l) (whole y211 (fun _ => rfl) rfl) (whole_len y211 (fun _ => rfl) rfl)) rfl ?_
      refine OKS.st (j := 1) (vs := List.flatMap encI y211.l) rfl rfl rfl rfl hS374 rfl f375 rfl rfl (fun w => by rw [whole_len (f := encI) (sz := 1) (N := 81) y211 (fun _ => rfl) rfl]; exact Try.sizeOf124 w) (by rw [whole_len (f := encI) (sz := 1) (N := 81) y211 (fun _ => rfl) rfl, whole_len (f := encI) (sz := 1) (N := 81) (Arr.fill 81 0) (fun _ => rfl) rfl]; exact Nat.le_of_ble_eq_true rfl) (all_one_flat (fun _ => rfl) _) (setN_all _ _ (by rw [whole_len (f := encI) (sz := 1) (N := 81) y211 (fun _ => rfl) rfl, whole_len (f := encI) (sz := 1) (N := 81) (Arr.fill 81 0) (fun _ => rfl) rfl])) rfl ?_
      intro W385 hS386
      have hS387 : St ⟨w, [], φ⟩ φ372 [.blk b7 124 (List.flatMap encI y211.l), .blk b2 124 (List.flatMap encI y211.l)] W385 := hS386
      refine OKS.ra rfl rfl rfl rfl rfl rfl ?_
      refine OKS.e ?_
      refine thenQ_n ?_
      refine CK.ret ?_
      refine blockQ_r ?_
      refine thenQ_r ?_
      have q := esc_spec hm384
      obtain ⟨v388, hm389, e390⟩ := q
      obtain rfl := jn_inr hm207 hX362 (hb369 v388 e390)
      refine thenQ_r ?_
      refine blockQ_r ?_
      refine thenQ_r ?_
      cases hm389
      exact ⟨rfl, _, (resLn (rs := [.cell 4 124, .tmp 5]) (vs := [.agg (List.flatMap encI y211.l).toArray, .bool false]) ⟨⟨_, f375, (ldvarA Try.isAgg124 Try.sizeOf124 (hS387.blkAt (k := 1) rfl) (whole y211 (fun _ => rfl) rfl) (whole_len y211 (fun _ => rfl) rfl))⟩, ⟨rfl, trivial⟩⟩ rfl), φ372, _, (hS387.pick [] _ (by decide) rfl), rfl, rfl⟩
     ·have hm391 := hm381; rw [if_neg c383] at hm391; replace c383 := Hid.mk c383
      refine CK.condF (decF c383.out) ?_
      refine CK.skip ?_
      refine blockQ_n ?_
      refine thenQ_n ?_
      refine CK.reg (ks := []) (.fl 0 (.fl 1 (.nil))) rfl ?_
      refine OKS.r rfl rfl rfl rfl (fun _ => Runs.to (Runs.addw rfl fi371 rfl) (congrArg (Value.int .i64) hi379.out)) ?_
      refine OKS.rm rfl rfl rfl rfl rfl rfl ?_
      refine OKS.e ?_
      obtain rfl := Option.some.inj hm391
      exact thenQ_n ⟨rfl, _, rfl, ⟨φ372, rfl, f375, f376, f377, le373, hS374⟩⟩
    ·rintro ⟨⟩ σ392 W393 ⟨φ396, fi395, f399, f400, f401, le397, hS398⟩ hb394
     have hm402 := jn_inl hm207 hX362 hb394
     try dsimp only at hm402
     have c403 : Hid (¬ ((↑((w64 (p0 + 1) : Int) - 0).toNat : Int) < (w64 (p0 + 1)))) := Hid.mk (lp_end0)
     refine CK.seq ?_
     refine CK.reg (ks := []) (.fl 0 (.nil)) rfl ?_
     refine OKS.r rfl rfl rfl rfl (fun _ => Runs.lss rfl fi395 f401) ?_
     refine OKS.e ?_
     refine thenQ_n ?_
     refine CK.seq ?_
     refine CK.condF (decF c403.out) ?_
     refine CK.exit ?_
     refine thenQ_e ?_
     refine thenQ_e ?_
     refine blockQ_h ?_
     refine thenQ_n ?_
     refine CK.seq ?_
     refine CK.reg (ks := []) (.fl 0 (.fx 1 (.fl 2 (.nil)) .stop)) rfl ?_
     refine OKS.m rfl rfl rfl rfl (hS398.ldBA (j := 0) rfl rfl f400 Try.isAgg124 Try.sizeOf124 (vs := List.flatMap encI y211.l) (whole y211 (fun _ => rfl) rfl) (whole_len y211 (fun _ => rfl) rfl)) rfl ?_
     refine OKS.st (j := 1) (vs := List.flatMap encI y211.l) rfl rfl rfl rfl hS398 rfl f399 rfl rfl (fun w => by rw [whole_len (f := encI) (sz := 1) (N := 81) y211 (fun _ => rfl) rfl]; exact Try.sizeOf124 w) (by rw [whole_len (f := encI) (sz := 1) (N := 81) y211 (fun _ => rfl) rfl, whole_len (f := encI) (sz := 1) (N := 81) (Arr.fill 81 0) (fun _ => rfl) rfl]; exact Nat.le_of_ble_eq_true rfl) (all_one_flat (fun _ => rfl) _) (setN_all _ _ (by rw [whole_len (f := encI) (sz := 1) (N := 81) y211 (fun _ => rfl) rfl, whole_len (f := encI) (sz := 1) (N := 81) (Arr.fill 81 0) (fun _ => rfl) rfl])) rfl ?_
     intro W404 hS405
     have hS406 : St ⟨w, [], φ⟩ φ396 [.blk b7 124 (List.flatMap encI y211.l), .blk b2 124 (List.flatMap encI y211.l)] W404 := hS405
     refine OKS.ra rfl rfl rfl rfl rfl rfl ?_
     refine OKS.e ?_
     refine thenQ_n ?_
     refine CK.ret ?_
     cases hm402
     exact ⟨rfl, _, (resLn (rs := [.cell 4 124, .tmp 5]) (vs := [.agg (List.flatMap encI y211.l).toArray, .bool true]) ⟨⟨_, f399, (ldvarA Try.isAgg124 Try.sizeOf124 (hS406.blkAt (k := 1) rfl) (whole y211 (fun _ => rfl) rfl) (whole_len y211 (fun _ => rfl) rfl))⟩, ⟨rfl, trivial⟩⟩ rfl), φ396, _, (hS406.pick [] _ (by decide) rfl), rfl, rfl⟩

set_option maxHeartbeats 4000000 in
theorem w_target_Few (p0 : List Int) (pA0 : Option Addr) (pc0 : Nat) (p1 : List T_target_Sheet) (pA1 : Option Addr) (pc1 : Nat) (w : World) (φ : PHeap) (hS : St ⟨w, [], φ⟩ φ [] w) (ha0 : Sl φ 1 pA0 pc0 p0.length (List.flatMap encI p0)) (ha1 : Sl φ 4 pA1 pc1 p1.length (List.flatMap encT_target_Sheet p1)) {r : Bool × Int} (hm : m_target_Few p0 p1 = some r) : Gv Try.prog 15 [.slice pA0 p0.length pc0, .slice pA1 p1.length pc1] w (RetS w [] φ (fun φ_ L_ v => v = .tuple #[.bool r.1, .int .i64 r.2] ∧ L_ = [])) := by
 unfold m_target_Few at hm
 refine Gv.of Try.func15 rfl Try.ntmps15 Try.results15 rfl ?_
 refine CK.seq ?_
 refine CK.reg (ks := []) (.fl 0 (.fl 1 (.nil))) rfl ?_
 refine OKS.ra rfl rfl rfl rfl rfl rfl ?_
 refine OKS.ra rfl rfl rfl rfl rfl rfl ?_
 refine OKS.e ?_
 refine thenQ_n ?_
 refine CK.seq ?_
 refine CK.seq ?_
 refine CK.reg (ks := []) (.fl 0 (.fl 1 (.fx 2 (.fl 3 (.nil)) .stop))) rfl ?_
 refine OKS.rm rfl rfl rfl rfl rfl rfl ?_
 refine OKS.rm rfl rfl rfl rfl rfl rfl ?_
 have q := bnd hm
 obtain ⟨x1, h2, hm3⟩ := q
 refine OKS.callH 0 rfl rfl rfl rfl (Enters.mk rfl rfl Try.call64 (mapcons rfl (mapcons rfl mapnil)) rfl) hS (fun hs => w_target_due p0 pA0 pc0 p1 pA1 pc1 w φ hs ha0 ha1 h2) (.inr rfl) ?_
 rintro φ4 L5 v6 W7 le8 hS9 ⟨rfl, rfl⟩
 have hS10 : St ⟨w, [], φ⟩ φ4 [] W7 := hS9
 refine OKS.ra rfl rfl rfl rfl rfl rfl ?_
 refine OKS.e ?_
 refine thenQ_n ?_
 refine CK.seq ?_
 refine CK.reg (ks := []) (.fl 0 (.fl 1 (.nil))) rfl ?_
 refine OKS.rm rfl rfl rfl rfl rfl rfl ?_
 refine OKS.r rfl rfl rfl rfl (fun _ => Runs.neq rfl rfl rfl) ?_
 refine OKS.e ?_
 refine thenQ_n ?_
 by_cases c11 : x1 = 0
 ·have hm12 := hm3; rw [if_pos c11] at hm12; replace c11 := Hid.mk c11
  refine CK.condF (decF (fun h => h c11.out)) ?_
  refine CK.skip ?_
  refine thenQ_n ?_
  refine CK.seq ?_
  refine CK.reg (ks := []) (.fl 0 (.fl 1 (.fl 2 (.fl 3 (.fl 4 (.fl 5 (.fx 6 (.fx 7 (.fl 8 (.fl 9 (.fl 10 (.fx 11 (.fx 12 (.fl 13 (.nil)) .stop) .stop)))) .stop) .stop))))))) rfl ?_
  refine OKS.rm rfl rfl rfl rfl rfl rfl ?_
  refine OKS.r rfl rfl rfl rfl (fun _ => Runs.len rfl rfl Try.runUnderlying22) ?_
  refine OKS.rm rfl rfl rfl rfl rfl rfl ?_
  refine OKS.r rfl rfl rfl rfl (fun _ => Runs.len rfl rfl Try.runUnderlying22) ?_
  refine OKS.rm rfl rfl rfl rfl rfl rfl ?_
  refine OKS.rm rfl rfl rfl rfl rfl rfl ?_
  have h13 := ha1.le le8
  have h14 := ha0.le le8
  have q := bnd hm12
  obtain ⟨x15, h16, hm17⟩ := q
  refine OKS.callH 0 rfl rfl rfl rfl (Enters.mk rfl rfl Try.call66 (mapcons rfl (mapcons rfl (mapcons rfl mapnil))) rfl) hS10 (fun hs => w_target_links (↑p0.length : Int) p1 pA1 pc1 p0 pA0 pc0 W7 φ4 hs h13 h14 h16) (.inr rfl) ?_
  rintro φ18 L19 v20 W21 le22 hS23 ⟨A24, c25, c26, rfl, rfl, h28⟩
  have hS29 : St ⟨w, [], φ⟩ φ18 [.row A24 c25 134 5 c26] W21 := hS23
  have q := hS29.freezeRR (R := rl134) (k := 0) rfl h28 rfl (by decide)
  obtain ⟨φ30, le31, hs32, hS33⟩ := q
  have hS34 : St ⟨w, [], φ⟩ φ30 [] W21 := hS33
  have q := bnd hm17
  obtain ⟨⟨x35, x36⟩, h37, hm38⟩ := q
  try dsimp only at hm38
  refine OKS.callH 0 rfl rfl rfl rfl (Enters.mk rfl rfl Try.call65 (mapcons rfl (mapcons rfl mapnil)) rfl) hS34 (fun hs => w_target_distances (↑p0.length : Int) x15 A24 c25 W21 φ30 hs hs32 h37) (.inr rfl) ?_
  rintro φ39 L40 v41 W42 le43 hS44 ⟨rfl, rfl⟩
  have hS45 : St ⟨w, [], φ⟩ φ39 [] W42 := hS44
  refine OKS.rm rfl rfl rfl rfl rfl rfl ?_
  refine OKS.r rfl rfl rfl rfl (fun _ => Runs.ext rfl rfl (v := .agg (List.flatMap encI x35.l).toArray) rfl) ?_
  refine OKS.r rfl rfl rfl rfl (fun _ => Runs.ext rfl rfl (v := .bool x36) rfl) ?_
  refine OKS.alloc (cs := List.flatMap encI (Arr.fill 81 0).l) rfl rfl rfl rfl rfl Try.zeroValue124 rfl hS45 ?_
  intro W46 b47 hS48
  have hS50 : St ⟨w, [], φ⟩ φ39 [.blk b47 124 (List.flatMap encI (Arr.fill 81 0).l)] W46 := hS48
  refine OKS.st (j := 0) (vs := List.flatMap encI x35.l) rfl rfl rfl rfl hS50 rfl rfl rfl rfl (fun w => by rw [whole_len (f := encI) (sz := 1) (N := 81) x35 (fun _ => rfl) rfl]; exact Try.sizeOf124 w) (by rw [whole_len (f := encI) (sz := 1) (N := 81) x35 (fun _ => rfl) rfl, whole_len (f := encI) (sz := 1) (N := 81) (Arr.fill 81 0) (fun _ => rfl) rfl]; exact Nat.le_of_ble_eq_true rfl) (all_one_flat (fun _ => rfl) _) (setN_all _ _ (by rw [whole_len (f := encI) (sz := 1) (N := 81) x35 (fun _ => rfl) rfl, whole_len (f := encI) (sz := 1) (N := 81) (Arr.fill 81 0) (fun _ => rfl) rfl])) rfl ?_
  intro W51 hS52
  have hS53 : St ⟨w, [], φ⟩ φ39 [.blk b47 124 (List.flatMap encI x35.l)] W51 := hS52
  refine OKS.ra rfl rfl rfl rfl rfl rfl ?_
  refine OKS.e ?_
  refine thenQ_n ?_
  refine CK.seq ?_
  refine CK.reg (ks := []) (.fl 0 (.fl 1 (.fl 2 (.fl 3 (.nil))))) rfl ?_
  refine OKS.rm rfl rfl rfl rfl rfl rfl ?_
  refine OKS.r rfl rfl rfl rfl (fun _ => Runs.notT rfl rfl) ?_
  refine OKS.ra rfl rfl rfl rfl rfl rfl ?_
  refine OKS.ra rfl rfl rfl rfl rfl rfl ?_
  refine OKS.e ?_
  refine thenQ_n ?_
  refine CK.ret ?_
  cases hm38
  exact ⟨rfl, _, (res2 rfl rfl), φ39, _, (hS53.pick [] _ (by decide) rfl), rfl, rfl⟩
 ·have hm54 := hm3; rw [if_neg c11] at hm54; replace c11 := Hid.mk c11
  refine CK.condT (decT c11.out) ?_
  refine CK.seq ?_
  refine CK.reg (ks := []) (.fl 0 (.fl 1 (.fl 2 (.nil)))) rfl ?_
  refine OKS.rm rfl rfl rfl rfl rfl rfl ?_
  refine OKS.ra rfl rfl rfl rfl rfl rfl ?_
  refine OKS.ra rfl rfl rfl rfl rfl rfl ?_
  refine OKS.e ?_
  refine thenQ_n ?_
  refine CK.ret ?_
  refine thenQ_r ?_
  cases hm54
  exact ⟨rfl, _, (res2 rfl rfl), φ4, _, hS10, rfl, rfl⟩

set_option maxHeartbeats 4000000 in
theorem w_klisterref03_outside (p0 : Int) (p1 : Int) (p2 : Int) (w : World) (φ : PHeap) (hS : St ⟨w, [], φ⟩ φ [] w)  {r : Bool} (hm : m_klisterref03_outside p0 p1 p2 = some r) : Gv Try.prog 71 [.int .i64 p0, .int .i64 p1, .int .i64 p2] w (RetS w [] φ (fun φ_ L_ v => v = .bool r ∧ L_ = [])) := by
 unfold m_klisterref03_outside at hm
 refine Gv.of Try.func71 rfl Try.ntmps71 Try.results71 rfl ?_
 refine CK.seq ?_
 refine CK.reg (ks := []) (.fl 0 (.nil)) rfl ?_
 refine OKS.ra rfl rfl rfl rfl rfl rfl ?_
 refine OKS.e ?_
 refine thenQ_n ?_
 refine CK.seq ?_
 refine CK.reg (ks := []) (.fl 0 (.fl 1 (.fl 2 (.fl 3 (.fl 4 (.fl 5 (.fl 6 (.fl 7 (.fl 8 (.nil)))))))))) rfl ?_
 refine OKS.rm rfl rfl rfl rfl rfl rfl ?_
 refine OKS.rm rfl rfl rfl rfl rfl rfl ?_
 refine OKS.r rfl rfl rfl rfl (fun _ => Runs.lss rfl rfl rfl) ?_
 refine OKS.rm rfl rfl rfl rfl rfl rfl ?_
 by_cases c1 : p0 < p1
 ·have hm2 := hm; rw [if_pos c1] at hm2; replace c1 := Hid.mk c1
  refine OKS.p rfl rfl rfl (wantedN rfl rfl (decT c1.out) rfl) ?_
  refine OKS.p rfl rfl rfl (wantedN rfl rfl (decT c1.out) rfl) ?_
  refine OKS.p rfl rfl rfl (wantedN rfl rfl (decT c1.out) rfl) ?_
  refine OKS.r rfl rfl rfl rfl (fun _ => Runs.pickT rfl (decT c1.out) rfl) ?_
  refine OKS.ra rfl rfl rfl rfl rfl rfl ?_
  refine OKS.e ?_
  refine thenQ_n ?_
  refine CK.ret ?_
  cases hm2
  exact ⟨rfl, _, (res1 rfl), φ, _, hS, rfl, rfl⟩
 ·have hm3 := hm; rw [if_neg c1] at hm3; replace c1 := Hid.mk c1
  refine OKS.rm rfl rfl rfl (wantedY rfl rfl (decF c1.out)) rfl rfl ?_
  refine OKS.rm rfl rfl rfl (wantedY rfl rfl (decF c1.out)) rfl rfl ?_
  refine OKS.r rfl rfl rfl (wantedY rfl rfl (decF c1.out)) (fun _ => Runs.gtr rfl rfl rfl) ?_
  refine OKS.r rfl rfl rfl rfl (fun _ => Runs.pickF rfl (decF c1.out) rfl) ?_
  refine OKS.ra rfl rfl rfl rfl rfl rfl ?_
  refine OKS.e ?_
  refine thenQ_n ?_
  refine CK.ret ?_
  cases hm3
  exact ⟨rfl, _, (res1 rfl), φ, _, hS, rfl, rfl⟩

set_option maxHeartbeats 4000000 in
theorem w_klisterref03_CheckSheets (p0 : Int) (p1 : List T_klisterref03_Sheet) (pA1 : Option Addr) (pc1 : Nat) (w : World) (φ : PHeap) (hS : St ⟨w, [], φ⟩ φ [] w) (ha0 : Sl φ 4 pA1 pc1 p1.length (List.flatMap encT_klisterref03_Sheet p1)) {r : Int} (hm : m_klisterref03_CheckSheets p0 p1 = some r) : Gv Try.prog 112 [.int .i64 p0, .slice pA1 p1.length pc1] w (RetS w [] φ (fun φ_ L_ v => v = .int .i64 r ∧ L_ = [])) := by
 unfold m_klisterref03_CheckSheets at hm
 refine Gv.of Try.func112 rfl Try.ntmps112 Try.results112 rfl ?_
 refine CK.seq ?_
 refine CK.reg (ks := []) (.fl 0 (.nil)) rfl ?_
 refine OKS.ra rfl rfl rfl rfl rfl rfl ?_
 refine OKS.e ?_
 refine thenQ_n ?_
 refine CK.seq ?_
 refine CK.seq ?_
 refine CK.reg (ks := []) (.fl 0 (.fl 1 (.fl 2 (.fl 3 (.fl 4 (.fl 5 (.fl 6 (.fl 7 (.fl 8 (.fl 9 (.fl 10 (.nil)))))))))))) rfl ?_
 refine OKS.rm rfl rfl rfl rfl rfl rfl ?_
 refine OKS.r rfl rfl rfl rfl (fun _ => Runs.lss rfl rfl rfl) ?_
 refine OKS.rm rfl rfl rfl rfl rfl rfl ?_
 by_cases c1 : p0 < 1
 ·have hm2 := hm; rw [if_pos c1] at hm2; replace c1 := Hid.mk c1
  refine OKS.p rfl rfl rfl (wantedN rfl rfl (decT c1.out) rfl) ?_
  refine OKS.p rfl rfl rfl (wantedN rfl rfl (decT c1.out) rfl) ?_
  refine OKS.r rfl rfl rfl rfl (fun _ => Runs.pickT rfl (decT c1.out) rfl) ?_
  refine OKS.rm rfl rfl rfl rfl rfl rfl ?_
  refine OKS.p rfl rfl rfl (wantedN rfl rfl rfl rfl) ?_
  refine OKS.p rfl rfl rfl (wantedN rfl rfl rfl rfl) ?_
  refine OKS.p rfl rfl rfl (wantedN rfl rfl rfl rfl) ?_
  refine OKS.r rfl rfl rfl rfl (fun _ => Runs.pickT rfl rfl rfl) ?_
  refine OKS.e ?_
  refine thenQ_n ?_
  refine CK.condT rfl ?_
  refine CK.seq ?_
  refine CK.reg (ks := []) (.fl 0 (.nil)) rfl ?_
  refine OKS.ra rfl rfl rfl rfl rfl rfl ?_
  refine OKS.e ?_
  refine thenQ_n ?_
  refine CK.ret ?_
  refine thenQ_r ?_
  cases hm2
  exact ⟨rfl, _, (res1 rfl), φ, _, hS, rfl, rfl⟩
 ·have hm3 := hm; rw [if_neg c1] at hm3; replace c1 := Hid.mk c1
  refine OKS.rm rfl rfl rfl (wantedY rfl rfl (decF c1.out)) rfl rfl ?_
  refine OKS.r rfl rfl rfl (wantedY rfl rfl (decF c1.out)) (fun _ => Runs.gtr rfl rfl rfl) ?_
  refine OKS.r rfl rfl rfl rfl (fun _ => Runs.pickF rfl (decF c1.out) rfl) ?_
  refine OKS.rm rfl rfl rfl rfl rfl rfl ?_
  by_cases c4 : 8 < p0
  ·have hm5 := hm3; rw [if_pos c4] at hm5; replace c4 := Hid.mk c4
   refine OKS.p rfl rfl rfl (wantedN rfl rfl (decT c4.out) rfl) ?_
   refine OKS.p rfl rfl rfl (wantedN rfl rfl (decT c4.out) rfl) ?_
   refine OKS.p rfl rfl rfl (wantedN rfl rfl (decT c4.out) rfl) ?_
   refine OKS.r rfl rfl rfl rfl (fun _ => Runs.pickT rfl (decT c4.out) rfl) ?_
   refine OKS.e ?_
   refine thenQ_n ?_
   refine CK.condT rfl ?_
   refine CK.seq ?_
   refine CK.reg (ks := []) (.fl 0 (.nil)) rfl ?_
   refine OKS.ra rfl rfl rfl rfl rfl rfl ?_
   refine OKS.e ?_
   refine thenQ_n ?_
   refine CK.ret ?_
   refine thenQ_r ?_
   cases hm5
   exact ⟨rfl, _, (res1 rfl), φ, _, hS, rfl, rfl⟩
  ·have hm6 := hm3; rw [if_neg c4] at hm6; replace c4 := Hid.mk c4
   refine OKS.rm rfl rfl rfl (wantedY rfl rfl (decF c4.out)) rfl rfl ?_
   refine OKS.r rfl rfl rfl (wantedY rfl rfl (decF c4.out)) (fun _ => Runs.len rfl rfl Try.runUnderlying36) ?_
   refine OKS.r rfl rfl rfl (wantedY rfl rfl (decF c4.out)) (fun _ => Runs.gtr rfl rfl rfl) ?_
   refine OKS.r rfl rfl rfl rfl (fun _ => Runs.pickF rfl (decF c4.out) rfl) ?_
   refine OKS.e ?_
   refine thenQ_n ?_
   by_cases c7 : 20 < (↑p1.length : Int)
   ·have hm8 := hm6; rw [if_pos c7] at hm8; replace c7 := Hid.mk c7
    refine CK.condT (decT c7.out) ?_
    refine CK.seq ?_
    refine CK.reg (ks := []) (.fl 0 (.nil)) rfl ?_
    refine OKS.ra rfl rfl rfl rfl rfl rfl ?_
    refine OKS.e ?_
    refine thenQ_n ?_
    refine CK.ret ?_
    refine thenQ_r ?_
    cases hm8
    exact ⟨rfl, _, (res1 rfl), φ, _, hS, rfl, rfl⟩
   ·have hm9 := hm6; rw [if_neg c7] at hm9; replace c7 := Hid.mk c7
    refine CK.condF (decF c7.out) ?_
    refine CK.skip ?_
    refine thenQ_n ?_
    refine CK.seq ?_
    refine CK.seq ?_
    refine CK.reg (ks := []) (.fl 0 (.nil)) rfl ?_
    refine OKS.ra rfl rfl rfl rfl rfl rfl ?_
    refine OKS.e ?_
    refine thenQ_n ?_
    refine CK.block ?_
    have q := jn_some hm9
    obtain ⟨r12, hX13⟩ := q
    have q := forR_le hX13
    obtain ⟨hle14, hf15⟩ := q
    replace hle14 := Hid.mk hle14
    refine CK.forN (fun k11 _ σ_ w_ => ∃ (φ_ : PHeap), σ_ 5 = .int .i64 (↑k11 : Int) ∧ σ_ 0 = .int .i64 p0 ∧ σ_ 1 = .slice pA1 p1.length pc1 ∧ PHeap.Le φ φ_ ∧ St ⟨w, [], φ⟩ φ_ [] w_) hf15 ?_ ?_ ?_
    ·exact ⟨φ, rfl, rfl, rfl, (PHeap.Le.refl _), hS⟩
    ·rintro k11 ⟨⟩ xx18 σ16 W17 hk21 ⟨φ23, fi22, f26, f27, le24, hS25⟩ hx19 hb20
     try dsimp only at hx19
     have c28 : Hid ((↑k11 : Int) < (↑p1.length : Int)) := Hid.mk (lp_lt0 hk21)
     replace hk21 := Hid.mk hk21
     have hi29 : Hid (w64 ((↑k11 : Int) + 1) = (↑(k11 + 1) : Int)) := Hid.mk (by have h1 := hle14.out; have h2 := c28.out; rw [w64_in] <;> omega)
     refine CK.seq ?_
     refine CK.seq ?_
     refine CK.reg (ks := []) (.fl 0 (.fl 1 (.fl 2 (.fl 3 (.nil))))) rfl ?_
     refine OKS.rm rfl rfl rfl rfl rfl fi22 ?_
     refine OKS.rm rfl rfl rfl rfl rfl f27 ?_
     refine OKS.r rfl rfl rfl rfl (fun _ => Runs.len rfl rfl Try.runUnderlying36) ?_
     refine OKS.r rfl rfl rfl rfl (fun _ => Runs.lss rfl rfl rfl) ?_
     refine OKS.e ?_
     refine thenQ_n ?_
     refine CK.condT (decT c28.out) ?_
     refine CK.skip ?_
     refine thenQ_n ?_
     refine CK.seq ?_
     refine CK.block ?_
     refine CK.seq ?_
     refine CK.anyOrd Try.mixed [3, 3, 3, 3, 1, 3, 3, 3, 3, 3, 3, 1, 3, 3, 3, 3, 3, 3, 3, 3, 1, 3, 3, 3, 3, 1, 3, 3] (.fl 0 (.fl 1 (.fl 2 (.fl 3 (.fl 4 (.fl 5 (.fl 6 (.fl 7 (.fl 8 (.fl 9 (.fl 10 (.fl 11 (.fl 12 (.fl 13 (.fl 14 (.fl 15 (.fl 16 (.fl 17 (.fl 18 (.fl 19 (.fl 20 (.fl 21 (.fl 22 (.fl 23 (.fl 24 (.fl 25 (.fl 26 (.fl 27 (.nil))))))))))))))))))))))))))))) (by kernel_rfl) ?_
     have hS30 := hS25.drew
     generalize hw_W31 : ({ W17 with drawn := W17.drawn + 1 } : World) = W31 at hS30 ⊢
     refine OKS.rm rfl rfl rfl rfl rfl f27 ?_
     refine OKS.rm rfl rfl rfl rfl rfl fi22 ?_
     have q := bnd hx19
     obtain ⟨x32, h33, hm34⟩ := q
     have h35 := ha0.le le24
     have q := h35.el (fun _ => rfl) (idx_get h33)
     obtain ⟨b36, off37, hA38, hC39⟩ := q
     refine OKS.r rfl rfl rfl rfl (fun _ => Runs.iaN rfl rfl hA38 rfl Try.runUnderlying36 Try.sizeOf121 (idx_lt h33)) ?_
     refine OKS.r rfl rfl rfl rfl (fun _ => Runs.fa rfl rfl Try.runUnderlying121 rfl Try.sizeOf3) ?_
     refine OKS.m rfl rfl rfl rfl (hS30.ldC (f := 0) hC39 (v := .int .i64 x32.From) rfl rfl Try.isAgg3 rfl) rfl ?_
     refine OKS.r rfl rfl rfl rfl (fun _ => Runs.lss rfl rfl rfl) ?_
     refine OKS.rm rfl rfl rfl rfl rfl rfl ?_
     by_cases c40 : x32.From < 0
     ·have hm41 := hm34; rw [if_pos c40] at hm41; replace c40 := Hid.mk c40
      refine OKS.p rfl rfl rfl (wantedN rfl rfl (decT c40.out) rfl) ?_
      refine OKS.p rfl rfl rfl (wantedN rfl rfl (decT c40.out) rfl) ?_
      refine OKS.p rfl rfl rfl (wantedN rfl rfl (decT c40.out) rfl) ?_
      refine OKS.p rfl rfl rfl (wantedN rfl rfl (decT c40.out) rfl) ?_
      refine OKS.p rfl rfl rfl (wantedN rfl rfl (decT c40.out) rfl) ?_
      refine OKS.p rfl rfl rfl (wantedN rfl rfl (decT c40.out) rfl) ?_
      refine OKS.p rfl rfl rfl (wantedN rfl rfl (decT c40.out) rfl) ?_
      refine OKS.r rfl rfl rfl rfl (fun _ => Runs.pickT rfl (decT c40.out) rfl) ?_
      refine OKS.rm rfl rfl rfl rfl rfl rfl ?_
      refine OKS.p rfl rfl rfl (wantedN rfl rfl rfl rfl) ?_
      refine OKS.p rfl rfl rfl (wantedN rfl rfl rfl rfl) ?_
      refine OKS.p rfl rfl rfl (wantedN rfl rfl rfl rfl) ?_
      refine OKS.p rfl rfl rfl (wantedN rfl rfl rfl rfl) ?_
      refine OKS.p rfl rfl rfl (wantedN rfl rfl rfl rfl) ?_
      refine OKS.p rfl rfl rfl (wantedN rfl rfl rfl rfl) ?_
      refine OKS.p rfl rfl rfl (wantedN rfl rfl rfl rfl) ?_
      refine OKS.p rfl rfl rfl (wantedN rfl rfl rfl rfl) ?_
      refine OKS.p rfl rfl rfl (wantedN rfl rfl rfl rfl) ?_
      refine OKS.p rfl rfl rfl (wantedN rfl rfl rfl rfl) ?_
      refine OKS.p rfl rfl rfl (wantedN rfl rfl rfl rfl) ?_
      refine OKS.r rfl rfl rfl rfl (fun _ => Runs.pickT rfl rfl rfl) ?_
      refine OKS.e ?_
      refine thenQ_n ?_
      refine CK.condT rfl ?_
      refine CK.seq ?_
      refine CK.reg (ks := []) (.fl 0 (.nil)) rfl ?_
      refine OKS.ra rfl rfl rfl rfl rfl rfl ?_
      refine OKS.e ?_
      refine thenQ_n ?_
      refine CK.ret ?_
      refine blockQ_r ?_
      refine thenQ_r ?_
      have q := esc_spec hm41
      obtain ⟨v42, hm43, e44⟩ := q
      obtain rfl := jn_inr hm9 hX13 (hb20 v42 e44)
      refine thenQ_r ?_
      refine blockQ_r ?_
      refine thenQ_r ?_
      cases hm43
      exact ⟨rfl, _, (res1 rfl), φ23, _, hS30, rfl, rfl⟩
     ·have hm45 := hm34; rw [if_neg c40] at hm45; replace c40 := Hid.mk c40
      refine OKS.rm rfl rfl rfl (wantedY rfl rfl (decF c40.out)) rfl f27 ?_
      refine OKS.rm rfl rfl rfl (wantedY rfl rfl (decF c40.out)) rfl fi22 ?_
      have q := h35.el (fun _ => rfl) (idx_get h33)
      obtain ⟨b46, off47, hA48, hC49⟩ := q
      refine OKS.r rfl rfl rfl (wantedY rfl rfl (decF c40.out)) (fun _ => Runs.iaN rfl rfl hA48 rfl Try.runUnderlying36 Try.sizeOf121 (idx_lt h33)) ?_
      refine OKS.r rfl rfl rfl (wantedY rfl rfl (decF c40.out)) (fun _ => Runs.fa rfl rfl Try.runUnderlying121 rfl Try.sizeOf3) ?_
      refine OKS.m rfl rfl rfl (wantedY rfl rfl (decF c40.out)) (hS30.ldC (f := 1) hC49 (v := .int .i64 x32.To) rfl rfl Try.isAgg3 rfl) rfl ?_
      refine OKS.rm rfl rfl rfl (wantedY rfl rfl (decF c40.out)) rfl f26 ?_
      refine OKS.r rfl rfl rfl (wantedY rfl rfl (decF c40.out)) (fun _ => Runs.geq rfl rfl rfl) ?_
      refine OKS.r rfl rfl rfl rfl (fun _ => Runs.pickF rfl (decF c40.out) rfl) ?_
      refine OKS.rm rfl rfl rfl rfl rfl rfl ?_
      by_cases c50 : p0 ≤ x32.To
      ·have hm51 := hm45; rw [if_pos c50] at hm51; replace c50 := Hid.mk c50
       refine OKS.p rfl rfl rfl (wantedN rfl rfl (decT c50.out) rfl) ?_
       refine OKS.p rfl rfl rfl (wantedN rfl rfl (decT c50.out) rfl) ?_
       refine OKS.p rfl rfl rfl (wantedN rfl rfl (decT c50.out) rfl) ?_
       refine OKS.p rfl rfl rfl (wantedN rfl rfl (decT c50.out) rfl) ?_
       refine OKS.p rfl rfl rfl (wantedN rfl rfl (decT c50.out) rfl) ?_
       refine OKS.p rfl rfl rfl (wantedN rfl rfl (decT c50.out) rfl) ?_
       refine OKS.p rfl rfl rfl (wantedN rfl rfl (decT c50.out) rfl) ?_
       refine OKS.p rfl rfl rfl (wantedN rfl rfl (decT c50.out) rfl) ?_
       refine OKS.p rfl rfl rfl (wantedN rfl rfl (decT c50.out) rfl) ?_
       refine OKS.p rfl rfl rfl (wantedN rfl rfl (decT c50.out) rfl) ?_
       refine OKS.p rfl rfl rfl (wantedN rfl rfl (decT c50.out) rfl) ?_
       refine OKS.r rfl rfl rfl rfl (fun _ => Runs.pickT rfl (decT c50.out) rfl) ?_
       refine OKS.e ?_
       refine thenQ_n ?_
       refine CK.condT rfl ?_
       refine CK.seq ?_
       refine CK.reg (ks := []) (.fl 0 (.nil)) rfl ?_
       refine OKS.ra rfl rfl rfl rfl rfl rfl ?_
       refine OKS.e ?_
       refine thenQ_n ?_
       refine CK.ret ?_
       refine blockQ_r ?_
       refine thenQ_r ?_
       have q := esc_spec hm51
       obtain ⟨v52, hm53, e54⟩ := q
       obtain rfl := jn_inr hm9 hX13 (hb20 v52 e54)
       refine thenQ_r ?_
       refine blockQ_r ?_
       refine thenQ_r ?_
       cases hm53
       exact ⟨rfl, _, (res1 rfl), φ23, _, hS30, rfl, rfl⟩
      ·have hm55 := hm45; rw [if_neg c50] at hm55; replace c50 := Hid.mk c50
       refine OKS.rm rfl rfl rfl (wantedY rfl rfl (decF c50.out)) rfl f27 ?_
       refine OKS.rm rfl rfl rfl (wantedY rfl rfl (decF c50.out)) rfl fi22 ?_
       have q := h35.el (fun _ => rfl) (idx_get h33)
       obtain ⟨b56, off57, hA58, hC59⟩ := q
       refine OKS.r rfl rfl rfl (wantedY rfl rfl (decF c50.out)) (fun _ => Runs.iaN rfl rfl hA58 rfl Try.runUnderlying36 Try.sizeOf121 (idx_lt h33)) ?_
       refine OKS.r rfl rfl rfl (wantedY rfl rfl (decF c50.out)) (fun _ => Runs.fa rfl rfl Try.runUnderlying121 rfl Try.sizeOf3) ?_
       refine OKS.m rfl rfl rfl (wantedY rfl rfl (decF c50.out)) (hS30.ldC (f := 0) hC59 (v := .int .i64 x32.From) rfl rfl Try.isAgg3 rfl) rfl ?_
       refine OKS.rm rfl rfl rfl (wantedY rfl rfl (decF c50.out)) rfl f27 ?_
       refine OKS.rm rfl rfl rfl (wantedY rfl rfl (decF c50.out)) rfl fi22 ?_
       have q := h35.el (fun _ => rfl) (idx_get h33)
       obtain ⟨b60, off61, hA62, hC63⟩ := q
       refine OKS.r rfl rfl rfl (wantedY rfl rfl (decF c50.out)) (fun _ => Runs.iaN rfl rfl hA62 rfl Try.runUnderlying36 Try.sizeOf121 (idx_lt h33)) ?_
       refine OKS.r rfl rfl rfl (wantedY rfl rfl (decF c50.out)) (fun _ => Runs.fa rfl rfl Try.runUnderlying121 rfl Try.sizeOf3) ?_
       refine OKS.m rfl rfl rfl (wantedY rfl rfl (decF c50.out)) (hS30.ldC (f := 1) hC63 (v := .int .i64 x32.To) rfl rfl Try.isAgg3 rfl) rfl ?_
       refine OKS.r rfl rfl rfl (wantedY rfl rfl (decF c50.out)) (fun _ => Runs.gtr rfl rfl rfl) ?_
       refine OKS.r rfl rfl rfl rfl (fun _ => Runs.pickF rfl (decF c50.out) rfl) ?_
       refine OKS.e ?_
       refine thenQ_n ?_
       by_cases c64 : x32.To < x32.From
       ·have hm65 := hm55; rw [if_pos c64] at hm65; replace c64 := Hid.mk c64
        refine CK.condT (decT c64.out) ?_
        refine CK.seq ?_
        refine CK.reg (ks := []) (.fl 0 (.nil)) rfl ?_
        refine OKS.ra rfl rfl rfl rfl rfl rfl ?_
        refine OKS.e ?_
        refine thenQ_n ?_
        refine CK.ret ?_
        refine blockQ_r ?_
        refine thenQ_r ?_
        have q := esc_spec hm65
        obtain ⟨v66, hm67, e68⟩ := q
        obtain rfl := jn_inr hm9 hX13 (hb20 v66 e68)
        refine thenQ_r ?_
        refine blockQ_r ?_
        refine thenQ_r ?_
        cases hm67
        exact ⟨rfl, _, (res1 rfl), φ23, _, hS30, rfl, rfl⟩
       ·have hm69 := hm55; rw [if_neg c64] at hm69; replace c64 := Hid.mk c64
        refine CK.condF (decF c64.out) ?_
        refine CK.skip ?_
        refine blockQ_n ?_
        refine thenQ_n ?_
        refine CK.reg (ks := []) (.fl 0 (.fl 1 (.fl 2 (.nil)))) rfl ?_
        refine OKS.rm rfl rfl rfl rfl rfl fi22 ?_
        refine OKS.r rfl rfl rfl rfl (fun _ => Runs.to (Runs.addw rfl rfl rfl) (congrArg (Value.int .i64) hi29.out)) ?_
        refine OKS.ra rfl rfl rfl rfl rfl rfl ?_
        refine OKS.e ?_
        obtain rfl := Option.some.inj hm69
        exact thenQ_n ⟨rfl, _, rfl, ⟨φ23, rfl, f26, f27, le24, hS30⟩⟩
    ·rintro ⟨⟩ σ70 W71 ⟨φ74, fi73, f77, f78, le75, hS76⟩ hb72
     have hm79 := jn_inl hm9 hX13 hb72
     try dsimp only at hm79
     have c80 : Hid (¬ ((↑(((↑p1.length : Int) : Int) - 0).toNat : Int) < (↑p1.length : Int))) := Hid.mk (lp_end0)
     refine CK.seq ?_
     refine CK.seq ?_
     refine CK.reg (ks := []) (.fl 0 (.fl 1 (.fl 2 (.fl 3 (.nil))))) rfl ?_
     refine OKS.rm rfl rfl rfl rfl rfl fi73 ?_
     refine OKS.rm rfl rfl rfl rfl rfl f78 ?_
     refine OKS.r rfl rfl rfl rfl (fun _ => Runs.len rfl rfl Try.runUnderlying36) ?_
     refine OKS.r rfl rfl rfl rfl (fun _ => Runs.lss rfl rfl rfl) ?_
     refine OKS.e ?_
     refine thenQ_n ?_
     refine CK.condF (decF c80.out) ?_
     refine CK.exit ?_
     refine thenQ_e ?_
     refine thenQ_e ?_
     refine blockQ_h ?_
     refine thenQ_n ?_
     refine CK.seq ?_
     refine CK.seq ?_
     refine CK.reg (ks := []) (.fl 0 (.nil)) rfl ?_
     refine OKS.ra rfl rfl rfl rfl rfl rfl ?_
     refine OKS.e ?_
     refine thenQ_n ?_
     refine CK.block ?_
     have q := jn_some hm79
     obtain ⟨r83, hX84⟩ := q
     have q := forR_le hX84
     obtain ⟨hle85, hf86⟩ := q
     replace hle85 := Hid.mk hle85
     refine CK.forN (fun k82 _ σ_ w_ => ∃ (φ_ : PHeap), σ_ 6 = .int .i64 (↑k82 : Int) ∧ σ_ 1 = .slice pA1 p1.length pc1 ∧ PHeap.Le φ74 φ_ ∧ St ⟨w, [], φ⟩ φ_ [] w_) hf86 ?_ ?_ ?_
     ·exact ⟨φ74, rfl, f78, (PHeap.Le.refl _), hS76⟩
     ·rintro k82 ⟨⟩ xx89 σ87 W88 hk92 ⟨φ94, fi93, f97, le95, hS96⟩ hx90 hb91
      try dsimp only at hx90
      have c98 : Hid ((↑k82 : Int) < (↑p1.length : Int)) := Hid.mk (lp_lt0 hk92)
      replace hk92 := Hid.mk hk92
      have hi99 : Hid (w64 ((↑k82 : Int) + 1) = (↑(k82 + 1) : Int)) := Hid.mk (by have h1 := hle85.out; have h2 := c98.out; rw [w64_in] <;> omega)
      refine CK.seq ?_
      refine CK.seq ?_
      refine CK.reg (ks := []) (.fl 0 (.fl 1 (.fl 2 (.fl 3 (.nil))))) rfl ?_
      refine OKS.rm rfl rfl rfl rfl rfl fi93 ?_
      refine OKS.rm rfl rfl rfl rfl rfl f97 ?_
      refine OKS.r rfl rfl rfl rfl (fun _ => Runs.len rfl rfl Try.runUnderlying36) ?_
      refine OKS.r rfl rfl rfl rfl (fun _ => Runs.lss rfl rfl rfl) ?_
      refine OKS.e ?_
      refine thenQ_n ?_
      refine CK.condT (decT c98.out) ?_
      refine CK.skip ?_
      refine thenQ_n ?_
      refine CK.seq ?_
      refine CK.block ?_
      refine CK.seq ?_
      refine CK.anyOrd Try.mixed [3, 3, 3, 3, 3, 1, 3, 3, 3, 3, 3, 3, 3, 1, 3, 3, 3, 3, 3, 3, 3, 3, 1, 3, 3, 3, 3, 3, 1, 3, 3] (.fl 0 (.fl 1 (.fl 2 (.fl 3 (.fl 4 (.fl 5 (.fl 6 (.fl 7 (.fl 8 (.fl 9 (.fl 10 (.fl 11 (.fl 12 (.fl 13 (.fl 14 (.fl 15 (.fl 16 (.fl 17 (.fl 18 (.fl 19 (.fl 20 (.fl 21 (.fl 22 (.fl 23 (.fl 24 (.fl 25 (.fl 26 (.fl 27 (.fl 28 (.fl 29 (.fl 30 (.nil)))))))))))))))))))))))))))))))) (by kernel_rfl) ?_
      have hS100 := hS96.drew
      generalize hw_W101 : ({ W88 with drawn := W88.drawn + 1 } : World) = W101 at hS100 ⊢
      refine OKS.rm rfl rfl rfl rfl rfl f97 ?_
      refine OKS.rm rfl rfl rfl rfl rfl fi93 ?_
      have q := bnd hx90
      obtain ⟨x102, h103, hm104⟩ := q
      have h105 := ha0.le le75
      have h106 := h105.le le95
      have q := h106.el (fun _ => rfl) (idx_get h103)
      obtain ⟨b107, off108, hA109, hC110⟩ := q
      refine OKS.r rfl rfl rfl rfl (fun _ => Runs.iaN rfl rfl hA109 rfl Try.runUnderlying36 Try.sizeOf121 (idx_lt h103)) ?_
      refine OKS.r rfl rfl rfl rfl (fun _ => Runs.fa rfl rfl Try.runUnderlying121 rfl Try.sizeOf29) ?_
      refine OKS.r rfl rfl rfl rfl (fun _ => Runs.fa rfl rfl Try.runUnderlying29 rfl Try.sizeOf3) ?_
      refine OKS.m rfl rfl rfl rfl (hS100.ldC (f := 2) hC110 (v := .int .i64 x102.Loops.Lo) rfl rfl Try.isAgg3 rfl) rfl ?_
      refine OKS.r rfl rfl rfl rfl (fun _ => Runs.lss rfl rfl rfl) ?_
      refine OKS.rm rfl rfl rfl rfl rfl rfl ?_
      by_cases c111 : x102.Loops.Lo < 0
      ·have hm112 := hm104; rw [if_pos c111] at hm112; replace c111 := Hid.mk c111
       refine OKS.p rfl rfl rfl (wantedN rfl rfl (decT c111.out) rfl) ?_
       refine OKS.p rfl rfl rfl (wantedN rfl rfl (decT c111.out) rfl) ?_
       refine OKS.p rfl rfl rfl (wantedN rfl rfl (decT c111.out) rfl) ?_
       refine OKS.p rfl rfl rfl (wantedN rfl rfl (decT c111.out) rfl) ?_
       refine OKS.p rfl rfl rfl (wantedN rfl rfl (decT c111.out) rfl) ?_
       refine OKS.p rfl rfl rfl (wantedN rfl rfl (decT c111.out) rfl) ?_
       refine OKS.p rfl rfl rfl (wantedN rfl rfl (decT c111.out) rfl) ?_
       refine OKS.r rfl rfl rfl rfl (fun _ => Runs.pickT rfl (decT c111.out) rfl) ?_
       refine OKS.rm rfl rfl rfl rfl rfl rfl ?_
       refine OKS.p rfl rfl rfl (wantedN rfl rfl rfl rfl) ?_
       refine OKS.p rfl rfl rfl (wantedN rfl rfl rfl rfl) ?_
       refine OKS.p rfl rfl rfl (wantedN rfl rfl rfl rfl) ?_
       refine OKS.p rfl rfl rfl (wantedN rfl rfl rfl rfl) ?_
       refine OKS.p rfl rfl rfl (wantedN rfl rfl rfl rfl) ?_
       refine OKS.p rfl rfl rfl (wantedN rfl rfl rfl rfl) ?_
       refine OKS.p rfl rfl rfl (wantedN rfl rfl rfl rfl) ?_
       refine OKS.p rfl rfl rfl (wantedN rfl rfl rfl rfl) ?_
       refine OKS.p rfl rfl rfl (wantedN rfl rfl rfl rfl) ?_
       refine OKS.p rfl rfl rfl (wantedN rfl rfl rfl rfl) ?_
       refine OKS.p rfl rfl rfl (wantedN rfl rfl rfl rfl) ?_
       refine OKS.p rfl rfl rfl (wantedN rfl rfl rfl rfl) ?_
       refine OKS.p rfl rfl rfl (wantedN rfl rfl rfl rfl) ?_
       refine OKS.r rfl rfl rfl rfl (fun _ => Runs.pickT rfl rfl rfl) ?_
       refine OKS.e ?_
       refine thenQ_n ?_
       refine CK.condT rfl ?_
       refine CK.seq ?_
       refine CK.reg (ks := []) (.fl 0 (.nil)) rfl ?_
       refine OKS.ra rfl rfl rfl rfl rfl rfl ?_
       refine OKS.e ?_
       refine thenQ_n ?_
       refine CK.ret ?_
       refine blockQ_r ?_
       refine thenQ_r ?_
       have q := esc_spec hm112
       obtain ⟨v113, hm114, e115⟩ := q
       obtain rfl := jn_inr hm79 hX84 (hb91 v113 e115)
       refine thenQ_r ?_
       refine blockQ_r ?_
       refine thenQ_r ?_
       cases hm114
       exact ⟨rfl, _, (res1 rfl), φ94, _, hS100, rfl, rfl⟩
      ·have hm116 := hm104; rw [if_neg c111] at hm116; replace c111 := Hid.mk c111
       refine OKS.rm rfl rfl rfl (wantedY rfl rfl (decF c111.out)) rfl f97 ?_
       refine OKS.rm rfl rfl rfl (wantedY rfl rfl (decF c111.out)) rfl fi93 ?_
       have q := h106.el (fun _ => rfl) (idx_get h103)
       obtain ⟨b117, off118, hA119, hC120⟩ := q
       refine OKS.r rfl rfl rfl (wantedY rfl rfl (decF c111.out)) (fun _ => Runs.iaN rfl rfl hA119 rfl Try.runUnderlying36 Try.sizeOf121 (idx_lt h103)) ?_
       refine OKS.r rfl rfl rfl (wantedY rfl rfl (decF c111.out)) (fun _ => Runs.fa rfl rfl Try.runUnderlying121 rfl Try.sizeOf29) ?_
       refine OKS.r rfl rfl rfl (wantedY rfl rfl (decF c111.out)) (fun _ => Runs.fa rfl rfl Try.runUnderlying29 rfl Try.sizeOf3) ?_
       refine OKS.m rfl rfl rfl (wantedY rfl rfl (decF c111.out)) (hS100.ldC (f := 3) hC120 (v := .int .i64 x102.Loops.Hi) rfl rfl Try.isAgg3 rfl) rfl ?_
       refine OKS.r rfl rfl rfl (wantedY rfl rfl (decF c111.out)) (fun _ => Runs.gtr rfl rfl rfl) ?_
       refine OKS.r rfl rfl rfl rfl (fun _ => Runs.pickF rfl (decF c111.out) rfl) ?_
       refine OKS.rm rfl rfl rfl rfl rfl rfl ?_
       by_cases c121 : 72 < x102.Loops.Hi
       ·have hm122 := hm116; rw [if_pos c121] at hm122; replace c121 := Hid.mk c121
        refine OKS.p rfl rfl rfl (wantedN rfl rfl (decT c121.out) rfl) ?_
        refine OKS.p rfl rfl rfl (wantedN rfl rfl (decT c121.out) rfl) ?_
        refine OKS.p rfl rfl rfl (wantedN rfl rfl (decT c121.out) rfl) ?_
        refine OKS.p rfl rfl rfl (wantedN rfl rfl (decT c121.out) rfl) ?_
        refine OKS.p rfl rfl rfl (wantedN rfl rfl (decT c121.out) rfl) ?_
        refine OKS.p rfl rfl rfl (wantedN rfl rfl (decT c121.out) rfl) ?_
        refine OKS.p rfl rfl rfl (wantedN rfl rfl (decT c121.out) rfl) ?_
        refine OKS.p rfl rfl rfl (wantedN rfl rfl (decT c121.out) rfl) ?_
        refine OKS.p rfl rfl rfl (wantedN rfl rfl (decT c121.out) rfl) ?_
        refine OKS.p rfl rfl rfl (wantedN rfl rfl (decT c121.out) rfl) ?_
        refine OKS.p rfl rfl rfl (wantedN rfl rfl (decT c121.out) rfl) ?_
        refine OKS.p rfl rfl rfl (wantedN rfl rfl (decT c121.out) rfl) ?_
        refine OKS.p rfl rfl rfl (wantedN rfl rfl (decT c121.out) rfl) ?_
        refine OKS.r rfl rfl rfl rfl (fun _ => Runs.pickT rfl (decT c121.out) rfl) ?_
        refine OKS.e ?_
        refine thenQ_n ?_
        refine CK.condT rfl ?_
        refine CK.seq ?_
        refine CK.reg (ks := []) (.fl 0 (.nil)) rfl ?_
        refine OKS.ra rfl rfl rfl rfl rfl rfl ?_
        refine OKS.e ?_
        refine thenQ_n ?_
        refine CK.ret ?_
        refine blockQ_r ?_
        refine thenQ_r ?_
        have q := esc_spec hm122
        obtain ⟨v123, hm124, e125⟩ := q
        obtain rfl := jn_inr hm79 hX84 (hb91 v123 e125)
        refine thenQ_r ?_
        refine blockQ_r ?_
        refine thenQ_r ?_
        cases hm124
        exact ⟨rfl, _, (res1 rfl), φ94, _, hS100, rfl, rfl⟩
       ·have hm126 := hm116; rw [if_neg c121] at hm126; replace c121 := Hid.mk c121
        refine OKS.rm rfl rfl rfl (wantedY rfl rfl (decF c121.out)) rfl f97 ?_
        refine OKS.rm rfl rfl rfl (wantedY rfl rfl (decF c121.out)) rfl fi93 ?_
        have q := h106.el (fun _ => rfl) (idx_get h103)
        obtain ⟨b127, off128, hA129, hC130⟩ := q
        refine OKS.r rfl rfl rfl (wantedY rfl rfl (decF c121.out)) (fun _ => Runs.iaN rfl rfl hA129 rfl Try.runUnderlying36 Try.sizeOf121 (idx_lt h103)) ?_
        refine OKS.r rfl rfl rfl (wantedY rfl rfl (decF c121.out)) (fun _ => Runs.fa rfl rfl Try.runUnderlying121 rfl Try.sizeOf29) ?_
        refine OKS.r rfl rfl rfl (wantedY rfl rfl (decF c121.out)) (fun _ => Runs.fa rfl rfl Try.runUnderlying29 rfl Try.sizeOf3) ?_
        refine OKS.m rfl rfl rfl (wantedY rfl rfl (decF c121.out)) (hS100.ldC (f := 2) hC130 (v := .int .i64 x102.Loops.Lo) rfl rfl Try.isAgg3 rfl) rfl ?_
        refine OKS.rm rfl rfl rfl (wantedY rfl rfl (decF c121.out)) rfl f97 ?_
        refine OKS.rm rfl rfl rfl (wantedY rfl rfl (decF c121.out)) rfl fi93 ?_
        have q := h106.el (fun _ => rfl) (idx_get h103)
        obtain ⟨b131, off132, hA133, hC134⟩ := q
        refine OKS.r rfl rfl rfl (wantedY rfl rfl (decF c121.out)) (fun _ => Runs.iaN rfl rfl hA133 rfl Try.runUnderlying36 Try.sizeOf121 (idx_lt h103)) ?_
        refine OKS.r rfl rfl rfl (wantedY rfl rfl (decF c121.out)) (fun _ => Runs.fa rfl rfl Try.runUnderlying121 rfl Try.sizeOf29) ?_
        refine OKS.r rfl rfl rfl (wantedY rfl rfl (decF c121.out)) (fun _ => Runs.fa rfl rfl Try.runUnderlying29 rfl Try.sizeOf3) ?_
        refine OKS.m rfl rfl rfl (wantedY rfl rfl (decF c121.out)) (hS100.ldC (f := 3) hC134 (v := .int .i64 x102.Loops.Hi) rfl rfl Try.isAgg3 rfl) rfl ?_
        refine OKS.r rfl rfl rfl (wantedY rfl rfl (decF c121.out)) (fun _ => Runs.gtr rfl rfl rfl) ?_
        refine OKS.r rfl rfl rfl rfl (fun _ => Runs.pickF rfl (decF c121.out) rfl) ?_
        refine OKS.e ?_
        refine thenQ_n ?_
        by_cases c135 : x102.Loops.Hi < x102.Loops.Lo
        ·have hm136 := hm126; rw [if_pos c135] at hm136; replace c135 := Hid.mk c135
         refine CK.condT (decT c135.out) ?_
         refine CK.seq ?_
         refine CK.reg (ks := []) (.fl 0 (.nil)) rfl ?_
         refine OKS.ra rfl rfl rfl rfl rfl rfl ?_
         refine OKS.e ?_
         refine thenQ_n ?_
         refine CK.ret ?_
         refine blockQ_r ?_
         refine thenQ_r ?_
         have q := esc_spec hm136
         obtain ⟨v137, hm138, e139⟩ := q
         obtain rfl := jn_inr hm79 hX84 (hb91 v137 e139)
         refine thenQ_r ?_
         refine blockQ_r ?_
         refine thenQ_r ?_
         cases hm138
         exact ⟨rfl, _, (res1 rfl), φ94, _, hS100, rfl, rfl⟩
        ·have hm140 := hm126; rw [if_neg c135] at hm140; replace c135 := Hid.mk c135
         refine CK.condF (decF c135.out) ?_
         refine CK.skip ?_
         refine blockQ_n ?_
         refine thenQ_n ?_
         refine CK.reg (ks := []) (.fl 0 (.fl 1 (.fl 2 (.nil)))) rfl ?_
         refine OKS.rm rfl rfl rfl rfl rfl fi93 ?_
         refine OKS.r rfl rfl rfl rfl (fun _ => Runs.to (Runs.addw rfl rfl rfl) (congrArg (Value.int .i64) hi99.out)) ?_
         refine OKS.ra rfl rfl rfl rfl rfl rfl ?_
         refine OKS.e ?_
         obtain rfl := Option.some.inj hm140
         exact thenQ_n ⟨rfl, _, rfl, ⟨φ94, rfl, f97, le95, hS100⟩⟩
     ·rintro ⟨⟩ σ141 W142 ⟨φ145, fi144, f148, le146, hS147⟩ hb143
      have hm149 := jn_inl hm79 hX84 hb143
      try dsimp only at hm149
      have c150 : Hid (¬ ((↑(((↑p1.length : Int) : Int) - 0).toNat : Int) < (↑p1.length : Int))) := Hid.mk (lp_end0)
      refine CK.seq ?_
      refine CK.seq ?_
      refine CK.reg (ks := []) (.fl 0 (.fl 1 (.fl 2 (.fl 3 (.nil))))) rfl ?_
      refine OKS.rm rfl rfl rfl rfl rfl fi144 ?_
      refine OKS.rm rfl rfl rfl rfl rfl f148 ?_
      refine OKS.r rfl rfl rfl rfl (fun _ => Runs.len rfl rfl Try.runUnderlying36) ?_
      refine OKS.r rfl rfl rfl rfl (fun _ => Runs.lss rfl rfl rfl) ?_
      refine OKS.e ?_
      refine thenQ_n ?_
      refine CK.condF (decF c150.out) ?_
      refine CK.exit ?_
      refine thenQ_e ?_
      refine thenQ_e ?_
      refine blockQ_h ?_
      refine thenQ_n ?_
      refine CK.seq ?_
      refine CK.reg (ks := []) (.fl 0 (.nil)) rfl ?_
      refine OKS.ra rfl rfl rfl rfl rfl rfl ?_
      refine OKS.e ?_
      refine thenQ_n ?_
      refine CK.ret ?_
      cases hm149
      exact ⟨rfl, _, (res1 rfl), φ145, _, hS147, rfl, rfl⟩
end Go.Proofs.Ytaoaelhmiggepaa
