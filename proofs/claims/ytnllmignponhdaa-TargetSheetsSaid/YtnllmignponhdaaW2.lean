/- Walks, printed by a program: each function does what its model says. -/
import Derived.Test.YtnllmignponhdaaEnc
import Derived.Test.YtnllmignponhdaaW0
import Derived.Test.YtnllmignponhdaaW1
namespace Go.Proofs.Ytnllmignponhdaa
open Go.KL
set_option maxHeartbeats 4000000 in
theorem w_klisterkit_Clone_target_Sheet (p0 : List T_target_Sheet) (pA0 : Option Addr) (pc0 : Nat) (w : World) (φ : PHeap) (hS : St ⟨w, [], φ⟩ φ [] w) (ha0 : Sl φ 4 pA0 pc0 p0.length (List.flatMap encT_target_Sheet p0)) {r : (List T_target_Sheet)} (hm : m_klisterkit_Clone_target_Sheet p0 = some r) : Gv Try.prog 16 [.slice pA0 p0.length pc0] w (RetS w [] φ (fun φ_ L_ v => ∃ (A0 : Option Addr) (c0 : Nat), v = .slice A0 r.length c0 ∧ L_ = [.row A0 c0 33 4 (List.flatMap encT_target_Sheet r)])) := by
  unfold m_klisterkit_Clone_target_Sheet at hm
  refine Gv.of Try.func16 rfl Try.ntmps16 Try.results16 rfl ?_
  refine CK.seq ?_
  refine CK.reg (ks := []) (.fl 0 (.nil)) rfl ?_
  refine OKS.r rfl rfl rfl rfl (fun _ => Runs.as rfl rfl) ?_
  refine OKS.e ?_
  refine thenQ_n ?_
  refine CK.seq ?_
  refine CK.reg (ks := []) (.fl 0 (.fx 1 (.fl 2 (.nil)) .stop)) rfl ?_
  refine OKS.r rfl rfl rfl rfl (fun _ => Runs.mv rfl rfl) ?_
  have hS1 := hS.nilrow 33 4
  have hS3 : St ⟨w, [], φ⟩ φ [.row none 0 33 4 (List.flatMap encT_target_Sheet ([] : List T_target_Sheet))] w := hS1
  obtain ⟨x4, h5, hm6⟩ := bnd hm
  refine OKS.append (j := 0) (enc := encT_target_Sheet) (xs := ([] : List T_target_Sheet)) (ys := p0) (zs := x4) rfl rfl rfl rfl rfl Try.underlying24 info33 rfl rfl rfl rfl rfl rfl hS3 rfl rfl rfl (hS3.srcS ha0) (fun _ => rfl) (fun _ => rfl) h5 rfl ?_
  intro A7 c8 W9 hS10
  have hS11 : St ⟨w, [], φ⟩ φ [.row A7 c8 33 4 (List.flatMap encT_target_Sheet x4)] W9 := hS10
  refine OKS.r rfl rfl rfl rfl (fun _ => Runs.as rfl rfl) ?_
  refine OKS.e ?_
  refine thenQ_n ?_
  refine CK.ret ?_
  cases hm6
  exact ⟨rfl, _, (res1 rfl), φ, _, hS11, A7, c8, rfl, rfl⟩

set_option maxHeartbeats 4000000 in
theorem w_klisterlaw03_Sheets (p0 : List T_target_Sheet) (pA0 : Option Addr) (pc0 : Nat) (w : World) (φ : PHeap) (hS : St ⟨w, [], φ⟩ φ [] w) (ha0 : Sl φ 4 pA0 pc0 p0.length (List.flatMap encT_target_Sheet p0)) {r : (List T_klisterref03_Sheet)} (hm : m_klisterlaw03_Sheets p0 = some r) : Gv Try.prog 25 [.slice pA0 p0.length pc0] w (RetS w [] φ (fun φ_ L_ v => ∃ (A0 : Option Addr) (c0 : Nat), v = .slice A0 r.length c0 ∧ L_ = [.row A0 c0 148 4 (List.flatMap encT_klisterref03_Sheet r)])) := by
  unfold m_klisterlaw03_Sheets at hm
  refine Gv.of Try.func25 rfl Try.ntmps25 Try.results25 rfl ?_
  refine CK.seq ?_
  refine CK.reg (ks := []) (.fl 0 (.nil)) rfl ?_
  refine OKS.r rfl rfl rfl rfl (fun _ => Runs.as rfl rfl) ?_
  refine OKS.e ?_
  refine thenQ_n ?_
  refine CK.seq ?_
  refine CK.reg (ks := []) (.fl 0 (.nil)) rfl ?_
  refine OKS.r rfl rfl rfl rfl (fun _ => Runs.as rfl rfl) ?_
  refine OKS.e ?_
  refine thenQ_n ?_
  refine CK.seq ?_
  refine CK.seq ?_
  refine CK.reg (ks := []) (.fl 0 (.fl 1 (.fl 2 (.nil)))) rfl ?_
  refine OKS.r rfl rfl rfl rfl (fun _ => Runs.mv rfl rfl) ?_
  refine OKS.r rfl rfl rfl rfl (fun _ => Runs.len rfl rfl Try.runUnderlying24) ?_
  refine OKS.r rfl rfl rfl rfl (fun _ => Runs.mv rfl rfl) ?_
  refine OKS.e ?_
  refine thenQ_n ?_
  refine CK.block ?_
  obtain ⟨y23, hf20, hm19⟩ := bnd hm
  obtain ⟨hle21, hf22⟩ := forR'_le hf20
  replace hle21 := Hid.mk hle21
  refine CK.forN' (fun k18 l14 σ_ w_ => ∃ (φ_ : PHeap) (A15 : Option Addr) (c16 : Nat), σ_ 8 = .int .i64 (↑k18 : Int) ∧ σ_ 3 = .slice A15 l14.length c16 ∧ σ_ 6 = .slice pA0 p0.length pc0 ∧ σ_ 7 = .int .i64 (↑p0.length : Int) ∧ PHeap.Le φ φ_ ∧ St ⟨w, [], φ⟩ φ_ [.row A15 c16 148 4 (List.flatMap encT_klisterref03_Sheet l14)] w_) hf22 ?_ ?_ ?_
  · have hS24 := hS.nilrow 148 4
    exact ⟨φ, none, 0, rfl, rfl, rfl, rfl, (PHeap.Le.refl _), hS24⟩
  · rintro k18 l14 xx28 σ26 W27 hk31 ⟨φ33, A15, c16, fi32, f36, f37, f38, le34, hS35⟩ hx29
    have c39 : Hid ((↑k18 : Int) < (↑p0.length : Int)) := Hid.mk (lp_lt0 hk31)
    replace hk31 := Hid.mk hk31
    have hi40 : Hid (w64 ((↑k18 : Int) + 1) = (↑(k18 + 1) : Int)) := Hid.mk (by have h1 := hle21.out; have h2 := c39.out; rw [w64_in] <;> omega)
    refine CK.seq ?_
    refine CK.reg (ks := []) (.fl 0 (.nil)) rfl ?_
    refine OKS.r rfl rfl rfl rfl (fun _ => Runs.lss rfl fi32 f38) ?_
    refine OKS.e ?_
    refine thenQ_n ?_
    refine CK.seq ?_
    refine CK.condT (decT c39.out) ?_
    refine CK.skip ?_
    refine thenQ_n ?_
    refine CK.seq ?_
    refine CK.block ?_
    refine CK.seq ?_
    refine CK.reg (ks := []) (.fl 0 (.fl 1 (.fx 2 (.fx 3 (.nil) .stop) .stop))) rfl ?_
    obtain ⟨x41, h42, hm43⟩ := bnd hx29
    have h44 := ha0.le le34
    obtain ⟨b45, off46, hA47, hC48⟩ := h44.el (fun _ => rfl) (idx_get h42)
    refine OKS.r rfl rfl rfl rfl (fun _ => Runs.iaN rfl f37 hA47 fi32 Try.runUnderlying24 Try.sizeOf33 (idx_lt h42)) ?_
    refine OKS.m rfl rfl rfl rfl (hS35.ldCA (f := 0) hC48 rfl rfl Try.isAgg33 Try.sizeOf33 (us := [.int .i64 x41.From, .int .i64 x41.To, .int .i64 x41.Loops.Lo, .int .i64 x41.Loops.Hi]) rfl rfl) rfl ?_
    refine OKS.alloc (cs := [.int .i64 0, .int .i64 0, .int .i64 0, .int .i64 0]) rfl rfl rfl rfl rfl Try.zeroValue33 rfl hS35 ?_
    intro W49 b50 hS51
    refine OKS.st (j := 0) (vs := [.int .i64 x41.From, .int .i64 x41.To, .int .i64 x41.Loops.Lo, .int .i64 x41.Loops.Hi]) rfl rfl rfl rfl hS51 rfl rfl rfl rfl Try.sizeOf33 (Nat.le_of_ble_eq_true rfl) rfl rfl rfl ?_
    intro W53 hS54
    have hS55 : St ⟨w, [], φ⟩ φ33 [.blk b50 33 [.int .i64 x41.From, .int .i64 x41.To, .int .i64 x41.Loops.Lo, .int .i64 x41.Loops.Hi], .row A15 c16 148 4 (List.flatMap encT_klisterref03_Sheet l14)] W53 := hS54
    refine OKS.e ?_
    refine thenQ_n ?_
    refine CK.reg (ks := []) (.fl 0 (.fl 1 (.fx 2 (.fx 3 (.fl 4 (.nil)) .stop) .stop))) rfl ?_
    refine OKS.r rfl rfl rfl rfl (fun _ => Runs.mv rfl f36) ?_
    refine OKS.m rfl rfl rfl rfl (hS55.ldBA (j := 0) rfl rfl rfl Try.isAgg33 Try.sizeOf33 (vs := [.int .i64 x41.From, .int .i64 x41.To, .int .i64 x41.Loops.Lo, .int .i64 x41.Loops.Hi]) rfl rfl) rfl ?_
    refine OKS.buildSlice (pv := [(0, .agg #[.int .i64 x41.From, .int .i64 x41.To, .int .i64 x41.Loops.Lo, .int .i64 x41.Loops.Hi])]) (zs := [.int .i64 0, .int .i64 0, .int .i64 0, .int .i64 0]) (cs := [.int .i64 x41.From, .int .i64 x41.To, .int .i64 x41.Loops.Lo, .int .i64 x41.Loops.Hi]) rfl rfl rfl rfl rfl (mapcons2 rfl mapnil2) Try.runUnderlying47 Try.sizeOf148 Try.zeroValue148 rfl rfl rfl rfl rfl hS55 ?_
    intro W56 b57 hS58
    have hS60 : St ⟨w, [], φ⟩ φ33 [.row (some ⟨b57, 0, none⟩) 1 148 4 (List.flatMap encT_klisterref03_Sheet [(⟨x41.From, x41.To, x41.Loops⟩ : T_klisterref03_Sheet)]), .blk b50 33 [.int .i64 x41.From, .int .i64 x41.To, .int .i64 x41.Loops.Lo, .int .i64 x41.Loops.Hi], .row A15 c16 148 4 (List.flatMap encT_klisterref03_Sheet l14)] W56 := hS58
    obtain ⟨x61, h62, hm63⟩ := bnd hm43
    refine OKS.append (j := 2) (enc := encT_klisterref03_Sheet) (xs := l14) (ys := [(⟨x41.From, x41.To, x41.Loops⟩ : T_klisterref03_Sheet)]) (zs := x61) rfl rfl rfl rfl rfl Try.underlying47 info148 rfl rfl rfl rfl rfl rfl hS60 rfl rfl rfl (hS60.srcR (j := 0) rfl (by decide) (flatMap_len (f := encT_klisterref03_Sheet) (sz := 4) (fun _ => rfl) [(⟨x41.From, x41.To, x41.Loops⟩ : T_klisterref03_Sheet)])) (fun _ => rfl) (fun _ => rfl) h62 rfl ?_
    intro A64 c65 W66 hS67
    have hS68 : St ⟨w, [], φ⟩ φ33 [.row (some ⟨b57, 0, none⟩) 1 148 4 (List.flatMap encT_klisterref03_Sheet [(⟨x41.From, x41.To, x41.Loops⟩ : T_klisterref03_Sheet)]), .blk b50 33 [.int .i64 x41.From, .int .i64 x41.To, .int .i64 x41.Loops.Lo, .int .i64 x41.Loops.Hi], .row A64 c65 148 4 (List.flatMap encT_klisterref03_Sheet x61)] W66 := hS67
    refine OKS.r rfl rfl rfl rfl (fun _ => Runs.as rfl rfl) ?_
    refine OKS.e ?_
    refine blockQ_n ?_
    refine thenQ_n ?_
    refine CK.reg (ks := []) (.fl 0 (.fl 1 (.nil))) rfl ?_
    refine OKS.r rfl rfl rfl rfl (fun _ => Runs.to (Runs.addw rfl fi32 rfl) (congrArg (Value.int .i64) hi40.out)) ?_
    refine OKS.r rfl rfl rfl rfl (fun _ => Runs.mv rfl rfl) ?_
    refine OKS.e ?_
    cases hm63
    exact thenQ_n ⟨rfl, ⟨φ33, A64, c65, rfl, rfl, f37, f38, le34, (hS68.pick [2] _ (by decide) rfl)⟩⟩
  · rintro σ72 W73 ⟨φ81, A79, c80, fi75, f84, f85, f86, le82, hS83⟩
    have c87 : Hid (¬ ((↑(((↑p0.length : Int) : Int) - 0).toNat : Int) < (↑p0.length : Int))) := Hid.mk (lp_end0)
    refine CK.seq ?_
    refine CK.reg (ks := []) (.fl 0 (.nil)) rfl ?_
    refine OKS.r rfl rfl rfl rfl (fun _ => Runs.lss rfl fi75 f86) ?_
    refine OKS.e ?_
    refine thenQ_n ?_
    refine CK.seq ?_
    refine CK.condF (decF c87.out) ?_
    refine CK.exit ?_
    refine thenQ_e ?_
    refine thenQ_e ?_
    refine blockQ_h ?_
    refine thenQ_n ?_
    refine CK.seq ?_
    refine CK.reg (ks := []) (.fl 0 (.fl 1 (.nil))) rfl ?_
    refine OKS.r rfl rfl rfl rfl (fun _ => Runs.mv rfl f84) ?_
    refine OKS.r rfl rfl rfl rfl (fun _ => Runs.as rfl rfl) ?_
    refine OKS.e ?_
    refine thenQ_n ?_
    refine CK.ret ?_
    cases hm19
    exact ⟨rfl, _, (res1 rfl), φ81, _, hS83, A79, c80, rfl, rfl⟩

set_option maxHeartbeats 4000000 in
theorem w_klisterref03_CheckSheets (p0 : Int) (p1 : List T_klisterref03_Sheet) (pA1 : Option Addr) (pc1 : Nat) (w : World) (φ : PHeap) (hS : St ⟨w, [], φ⟩ φ [] w) (ha0 : Sl φ 4 pA1 pc1 p1.length (List.flatMap encT_klisterref03_Sheet p1)) {r : Int} (hm : m_klisterref03_CheckSheets p0 p1 = some r) : Gv Try.prog 26 [.int .i64 p0, .slice pA1 p1.length pc1] w (RetS w [] φ (fun φ_ L_ v => v = .int .i64 r ∧ L_ = [])) := by
  unfold m_klisterref03_CheckSheets at hm
  refine Gv.of Try.func26 rfl Try.ntmps26 Try.results26 rfl ?_
  refine CK.seq ?_
  refine CK.reg (ks := []) (.fl 0 (.nil)) rfl ?_
  refine OKS.r rfl rfl rfl rfl (fun _ => Runs.as rfl rfl) ?_
  refine OKS.e ?_
  refine thenQ_n ?_
  refine CK.seq ?_
  refine CK.seq ?_
  refine CK.reg (ks := []) (.fl 0 (.fl 1 (.fl 2 (.fl 3 (.fl 4 (.fl 5 (.fl 6 (.fl 7 (.fl 8 (.fl 9 (.fl 10 (.nil)))))))))))) rfl ?_
  refine OKS.r rfl rfl rfl rfl (fun _ => Runs.mv rfl rfl) ?_
  refine OKS.r rfl rfl rfl rfl (fun _ => Runs.lss rfl rfl rfl) ?_
  refine OKS.r rfl rfl rfl rfl (fun _ => Runs.mv rfl rfl) ?_
  by_cases c1 : p0 < 1
  · have hm2 := hm; rw [if_pos c1] at hm2; replace c1 := Hid.mk c1
    refine OKS.p rfl rfl rfl (wantedN rfl rfl (decT c1.out) rfl) ?_
    refine OKS.p rfl rfl rfl (wantedN rfl rfl (decT c1.out) rfl) ?_
    refine OKS.r rfl rfl rfl rfl (fun _ => Runs.pickT rfl (decT c1.out) rfl) ?_
    refine OKS.r rfl rfl rfl rfl (fun _ => Runs.mv rfl rfl) ?_
    refine OKS.p rfl rfl rfl (wantedN rfl rfl rfl rfl) ?_
    refine OKS.p rfl rfl rfl (wantedN rfl rfl rfl rfl) ?_
    refine OKS.p rfl rfl rfl (wantedN rfl rfl rfl rfl) ?_
    refine OKS.r rfl rfl rfl rfl (fun _ => Runs.pickT rfl rfl rfl) ?_
    refine OKS.e ?_
    refine thenQ_n ?_
    refine CK.condT rfl ?_
    refine CK.seq ?_
    refine CK.reg (ks := []) (.fl 0 (.nil)) rfl ?_
    refine OKS.r rfl rfl rfl rfl (fun _ => Runs.as rfl rfl) ?_
    refine OKS.e ?_
    refine thenQ_n ?_
    refine CK.ret ?_
    refine thenQ_r ?_
    cases hm2
    exact ⟨rfl, _, (res1 rfl), φ, _, hS, rfl, rfl⟩
  · have hm3 := hm; rw [if_neg c1] at hm3; replace c1 := Hid.mk c1
    refine OKS.r rfl rfl rfl (wantedY rfl rfl (decF c1.out)) (fun _ => Runs.mv rfl rfl) ?_
    refine OKS.r rfl rfl rfl (wantedY rfl rfl (decF c1.out)) (fun _ => Runs.gtr rfl rfl rfl) ?_
    refine OKS.r rfl rfl rfl rfl (fun _ => Runs.pickF rfl (decF c1.out) rfl) ?_
    refine OKS.r rfl rfl rfl rfl (fun _ => Runs.mv rfl rfl) ?_
    by_cases c4 : 8 < p0
    · have hm5 := hm3; rw [if_pos c4] at hm5; replace c4 := Hid.mk c4
      refine OKS.p rfl rfl rfl (wantedN rfl rfl (decT c4.out) rfl) ?_
      refine OKS.p rfl rfl rfl (wantedN rfl rfl (decT c4.out) rfl) ?_
      refine OKS.p rfl rfl rfl (wantedN rfl rfl (decT c4.out) rfl) ?_
      refine OKS.r rfl rfl rfl rfl (fun _ => Runs.pickT rfl (decT c4.out) rfl) ?_
      refine OKS.e ?_
      refine thenQ_n ?_
      refine CK.condT rfl ?_
      refine CK.seq ?_
      refine CK.reg (ks := []) (.fl 0 (.nil)) rfl ?_
      refine OKS.r rfl rfl rfl rfl (fun _ => Runs.as rfl rfl) ?_
      refine OKS.e ?_
      refine thenQ_n ?_
      refine CK.ret ?_
      refine thenQ_r ?_
      cases hm5
      exact ⟨rfl, _, (res1 rfl), φ, _, hS, rfl, rfl⟩
    · have hm6 := hm3; rw [if_neg c4] at hm6; replace c4 := Hid.mk c4
      refine OKS.r rfl rfl rfl (wantedY rfl rfl (decF c4.out)) (fun _ => Runs.mv rfl rfl) ?_
      refine OKS.r rfl rfl rfl (wantedY rfl rfl (decF c4.out)) (fun _ => Runs.len rfl rfl Try.runUnderlying47) ?_
      refine OKS.r rfl rfl rfl (wantedY rfl rfl (decF c4.out)) (fun _ => Runs.gtr rfl rfl rfl) ?_
      refine OKS.r rfl rfl rfl rfl (fun _ => Runs.pickF rfl (decF c4.out) rfl) ?_
      refine OKS.e ?_
      refine thenQ_n ?_
      by_cases c7 : 20 < (↑p1.length : Int)
      · have hm8 := hm6; rw [if_pos c7] at hm8; replace c7 := Hid.mk c7
        refine CK.condT (decT c7.out) ?_
        refine CK.seq ?_
        refine CK.reg (ks := []) (.fl 0 (.nil)) rfl ?_
        refine OKS.r rfl rfl rfl rfl (fun _ => Runs.as rfl rfl) ?_
        refine OKS.e ?_
        refine thenQ_n ?_
        refine CK.ret ?_
        refine thenQ_r ?_
        cases hm8
        exact ⟨rfl, _, (res1 rfl), φ, _, hS, rfl, rfl⟩
      · have hm9 := hm6; rw [if_neg c7] at hm9; replace c7 := Hid.mk c7
        refine CK.condF (decF c7.out) ?_
        refine CK.skip ?_
        refine thenQ_n ?_
        refine CK.seq ?_
        refine CK.seq ?_
        refine CK.reg (ks := []) (.fl 0 (.nil)) rfl ?_
        refine OKS.r rfl rfl rfl rfl (fun _ => Runs.as rfl rfl) ?_
        refine OKS.e ?_
        refine thenQ_n ?_
        refine CK.block ?_
        obtain ⟨r12, hX13⟩ := jn_some hm9
        obtain ⟨hle14, hf15⟩ := forR_le hX13
        replace hle14 := Hid.mk hle14
        refine CK.forN (fun k11 _ σ_ w_ => ∃ (φ_ : PHeap), σ_ 5 = .int .i64 (↑k11 : Int) ∧ σ_ 0 = .int .i64 p0 ∧ σ_ 1 = .slice pA1 p1.length pc1 ∧ PHeap.Le φ φ_ ∧ St ⟨w, [], φ⟩ φ_ [] w_) hf15 ?_ ?_ ?_
        · exact ⟨φ, rfl, rfl, rfl, (PHeap.Le.refl _), hS⟩
        · rintro k11 ⟨⟩ xx18 σ16 W17 hk21 ⟨φ23, fi22, f26, f27, le24, hS25⟩ hx19 hb20
          try dsimp only at hx19
          have c28 : Hid ((↑k11 : Int) < (↑p1.length : Int)) := Hid.mk (lp_lt0 hk21)
          replace hk21 := Hid.mk hk21
          have hi29 : Hid (w64 ((↑k11 : Int) + 1) = (↑(k11 + 1) : Int)) := Hid.mk (by have h1 := hle14.out; have h2 := c28.out; rw [w64_in] <;> omega)
          refine CK.seq ?_
          refine CK.seq ?_
          refine CK.reg (ks := []) (.fl 0 (.fl 1 (.fl 2 (.fl 3 (.nil))))) rfl ?_
          refine OKS.r rfl rfl rfl rfl (fun _ => Runs.mv rfl fi22) ?_
          refine OKS.r rfl rfl rfl rfl (fun _ => Runs.mv rfl f27) ?_
          refine OKS.r rfl rfl rfl rfl (fun _ => Runs.len rfl rfl Try.runUnderlying47) ?_
          refine OKS.r rfl rfl rfl rfl (fun _ => Runs.lss rfl rfl rfl) ?_
          refine OKS.e ?_
          refine thenQ_n ?_
          refine CK.condT (decT c28.out) ?_
          refine CK.skip ?_
          refine thenQ_n ?_
          refine CK.seq ?_
          refine CK.block ?_
          refine CK.seq ?_
          refine CK.anyOrd Try.mixed [3, 3, 3, 3, 1, 3, 3, 3, 3, 3, 3, 1, 3, 3, 3, 3, 3, 3, 3, 3, 1, 3, 3, 3, 3, 1, 3, 3] (.fl 0 (.fl 1 (.fl 2 (.fl 3 (.fl 4 (.fl 5 (.fl 6 (.fl 7 (.fl 8 (.fl 9 (.fl 10 (.fl 11 (.fl 12 (.fl 13 (.fl 14 (.fl 15 (.fl 16 (.fl 17 (.fl 18 (.fl 19 (.fl 20 (.fl 21 (.fl 22 (.fl 23 (.fl 24 (.fl 25 (.fl 26 (.fl 27 (.nil))))))))))))))))))))))))))))) (by kernel_rfl) ?_
          have hS30 := hS25.drew
          generalize hw_W31 : ({ W17 with drawn := W17.drawn + 1 } : World) = W31 at hS30 ⊢
          refine OKS.r rfl rfl rfl rfl (fun _ => Runs.mv rfl f27) ?_
          refine OKS.r rfl rfl rfl rfl (fun _ => Runs.mv rfl fi22) ?_
          obtain ⟨x32, h33, hm34⟩ := bnd hx19
          have h35 := ha0.le le24
          obtain ⟨b36, off37, hA38, hC39⟩ := h35.el (fun _ => rfl) (idx_get h33)
          refine OKS.r rfl rfl rfl rfl (fun _ => Runs.iaN rfl rfl hA38 rfl Try.runUnderlying47 Try.sizeOf148 (idx_lt h33)) ?_
          refine OKS.r rfl rfl rfl rfl (fun _ => Runs.fa rfl rfl Try.runUnderlying148 rfl Try.sizeOf3) ?_
          refine OKS.m rfl rfl rfl rfl (hS30.ldC (f := 0) hC39 (v := .int .i64 x32.From) rfl rfl Try.isAgg3 rfl) rfl ?_
          refine OKS.r rfl rfl rfl rfl (fun _ => Runs.lss rfl rfl rfl) ?_
          refine OKS.r rfl rfl rfl rfl (fun _ => Runs.mv rfl rfl) ?_
          by_cases c40 : x32.From < 0
          · have hm41 := hm34; rw [if_pos c40] at hm41; replace c40 := Hid.mk c40
            refine OKS.p rfl rfl rfl (wantedN rfl rfl (decT c40.out) rfl) ?_
            refine OKS.p rfl rfl rfl (wantedN rfl rfl (decT c40.out) rfl) ?_
            refine OKS.p rfl rfl rfl (wantedN rfl rfl (decT c40.out) rfl) ?_
            refine OKS.p rfl rfl rfl (wantedN rfl rfl (decT c40.out) rfl) ?_
            refine OKS.p rfl rfl rfl (wantedN rfl rfl (decT c40.out) rfl) ?_
            refine OKS.p rfl rfl rfl (wantedN rfl rfl (decT c40.out) rfl) ?_
            refine OKS.p rfl rfl rfl (wantedN rfl rfl (decT c40.out) rfl) ?_
            refine OKS.r rfl rfl rfl rfl (fun _ => Runs.pickT rfl (decT c40.out) rfl) ?_
            refine OKS.r rfl rfl rfl rfl (fun _ => Runs.mv rfl rfl) ?_
            refine OKS.p rfl rfl rfl (wantedN rfl rfl rfl rfl) ?_
            refine OKS.p rfl rfl rfl (wantedN rfl rfl rfl rfl) ?_
            refine OKS.p rfl rfl rfl (wantedN rfl rfl rfl rfl) ?_
            refine OKS.p rfl rfl rfl (wantedN rfl rfl rfl rfl) ?_
            refine OKS.p rfl rfl rfl (wantedN rfl rfl rfl rfl) ?_
            refine OKS.p rfl rfl rfl (wantedN rfl rfl rfl rfl) ?_
            refine OKS.p rfl rfl rfl (wantedN rfl rfl rfl rfl) ?_
            refine OKS.p rfl rfl rfl (wantedN rfl rfl rfl rfl) ?_
            refine OKS.p rfl rfl rfl (wantedN rfl rfl rfl rfl) ?_
            refine OKS.p rfl rfl rfl (wantedN rfl rfl rfl rfl) ?_
            refine OKS.p rfl rfl rfl (wantedN rfl rfl rfl rfl) ?_
            refine OKS.r rfl rfl rfl rfl (fun _ => Runs.pickT rfl rfl rfl) ?_
            refine OKS.e ?_
            refine thenQ_n ?_
            refine CK.condT rfl ?_
            refine CK.seq ?_
            refine CK.reg (ks := []) (.fl 0 (.nil)) rfl ?_
            refine OKS.r rfl rfl rfl rfl (fun _ => Runs.as rfl rfl) ?_
            refine OKS.e ?_
            refine thenQ_n ?_
            refine CK.ret ?_
            refine blockQ_r ?_
            refine thenQ_r ?_
            obtain ⟨v42, hm43, e44⟩ := esc_spec hm41
            obtain rfl := jn_inr hm9 hX13 (hb20 v42 e44)
            refine thenQ_r ?_
            refine blockQ_r ?_
            refine thenQ_r ?_
            cases hm43
            exact ⟨rfl, _, (res1 rfl), φ23, _, hS30, rfl, rfl⟩
          · have hm45 := hm34; rw [if_neg c40] at hm45; replace c40 := Hid.mk c40
            refine OKS.r rfl rfl rfl (wantedY rfl rfl (decF c40.out)) (fun _ => Runs.mv rfl f27) ?_
            refine OKS.r rfl rfl rfl (wantedY rfl rfl (decF c40.out)) (fun _ => Runs.mv rfl fi22) ?_
            obtain ⟨b46, off47, hA48, hC49⟩ := h35.el (fun _ => rfl) (idx_get h33)
            refine OKS.r rfl rfl rfl (wantedY rfl rfl (decF c40.out)) (fun _ => Runs.iaN rfl rfl hA48 rfl Try.runUnderlying47 Try.sizeOf148 (idx_lt h33)) ?_
            refine OKS.r rfl rfl rfl (wantedY rfl rfl (decF c40.out)) (fun _ => Runs.fa rfl rfl Try.runUnderlying148 rfl Try.sizeOf3) ?_
            refine OKS.m rfl rfl rfl (wantedY rfl rfl (decF c40.out)) (hS30.ldC (f := 1) hC49 (v := .int .i64 x32.To) rfl rfl Try.isAgg3 rfl) rfl ?_
            refine OKS.r rfl rfl rfl (wantedY rfl rfl (decF c40.out)) (fun _ => Runs.mv rfl f26) ?_
            refine OKS.r rfl rfl rfl (wantedY rfl rfl (decF c40.out)) (fun _ => Runs.geq rfl rfl rfl) ?_
            refine OKS.r rfl rfl rfl rfl (fun _ => Runs.pickF rfl (decF c40.out) rfl) ?_
            refine OKS.r rfl rfl rfl rfl (fun _ => Runs.mv rfl rfl) ?_
            by_cases c50 : p0 ≤ x32.To
            · have hm51 := hm45; rw [if_pos c50] at hm51; replace c50 := Hid.mk c50
              refine OKS.p rfl rfl rfl (wantedN rfl rfl (decT c50.out) rfl) ?_
              refine OKS.p rfl rfl rfl (wantedN rfl rfl (decT c50.out) rfl) ?_
              refine OKS.p rfl rfl rfl (wantedN rfl rfl (decT c50.out) rfl) ?_
              refine OKS.p rfl rfl rfl (wantedN rfl rfl (decT c50.out) rfl) ?_
              refine OKS.p rfl rfl rfl (wantedN rfl rfl (decT c50.out) rfl) ?_
              refine OKS.p rfl rfl rfl (wantedN rfl rfl (decT c50.out) rfl) ?_
              refine OKS.p rfl rfl rfl (wantedN rfl rfl (decT c50.out) rfl) ?_
              refine OKS.p rfl rfl rfl (wantedN rfl rfl (decT c50.out) rfl) ?_
              refine OKS.p rfl rfl rfl (wantedN rfl rfl (decT c50.out) rfl) ?_
              refine OKS.p rfl rfl rfl (wantedN rfl rfl (decT c50.out) rfl) ?_
              refine OKS.p rfl rfl rfl (wantedN rfl rfl (decT c50.out) rfl) ?_
              refine OKS.r rfl rfl rfl rfl (fun _ => Runs.pickT rfl (decT c50.out) rfl) ?_
              refine OKS.e ?_
              refine thenQ_n ?_
              refine CK.condT rfl ?_
              refine CK.seq ?_
              refine CK.reg (ks := []) (.fl 0 (.nil)) rfl ?_
              refine OKS.r rfl rfl rfl rfl (fun _ => Runs.as rfl rfl) ?_
              refine OKS.e ?_
              refine thenQ_n ?_
              refine CK.ret ?_
              refine blockQ_r ?_
              refine thenQ_r ?_
              obtain ⟨v52, hm53, e54⟩ := esc_spec hm51
              obtain rfl := jn_inr hm9 hX13 (hb20 v52 e54)
              refine thenQ_r ?_
              refine blockQ_r ?_
              refine thenQ_r ?_
              cases hm53
              exact ⟨rfl, _, (res1 rfl), φ23, _, hS30, rfl, rfl⟩
            · have hm55 := hm45; rw [if_neg c50] at hm55; replace c50 := Hid.mk c50
              refine OKS.r rfl rfl rfl (wantedY rfl rfl (decF c50.out)) (fun _ => Runs.mv rfl f27) ?_
              refine OKS.r rfl rfl rfl (wantedY rfl rfl (decF c50.out)) (fun _ => Runs.mv rfl fi22) ?_
              obtain ⟨b56, off57, hA58, hC59⟩ := h35.el (fun _ => rfl) (idx_get h33)
              refine OKS.r rfl rfl rfl (wantedY rfl rfl (decF c50.out)) (fun _ => Runs.iaN rfl rfl hA58 rfl Try.runUnderlying47 Try.sizeOf148 (idx_lt h33)) ?_
              refine OKS.r rfl rfl rfl (wantedY rfl rfl (decF c50.out)) (fun _ => Runs.fa rfl rfl Try.runUnderlying148 rfl Try.sizeOf3) ?_
              refine OKS.m rfl rfl rfl (wantedY rfl rfl (decF c50.out)) (hS30.ldC (f := 0) hC59 (v := .int .i64 x32.From) rfl rfl Try.isAgg3 rfl) rfl ?_
              refine OKS.r rfl rfl rfl (wantedY rfl rfl (decF c50.out)) (fun _ => Runs.mv rfl f27) ?_
              refine OKS.r rfl rfl rfl (wantedY rfl rfl (decF c50.out)) (fun _ => Runs.mv rfl fi22) ?_
              obtain ⟨b60, off61, hA62, hC63⟩ := h35.el (fun _ => rfl) (idx_get h33)
              refine OKS.r rfl rfl rfl (wantedY rfl rfl (decF c50.out)) (fun _ => Runs.iaN rfl rfl hA62 rfl Try.runUnderlying47 Try.sizeOf148 (idx_lt h33)) ?_
              refine OKS.r rfl rfl rfl (wantedY rfl rfl (decF c50.out)) (fun _ => Runs.fa rfl rfl Try.runUnderlying148 rfl Try.sizeOf3) ?_
              refine OKS.m rfl rfl rfl (wantedY rfl rfl (decF c50.out)) (hS30.ldC (f := 1) hC63 (v := .int .i64 x32.To) rfl rfl Try.isAgg3 rfl) rfl ?_
              refine OKS.r rfl rfl rfl (wantedY rfl rfl (decF c50.out)) (fun _ => Runs.gtr rfl rfl rfl) ?_
              refine OKS.r rfl rfl rfl rfl (fun _ => Runs.pickF rfl (decF c50.out) rfl) ?_
              refine OKS.e ?_
              refine thenQ_n ?_
              by_cases c64 : x32.To < x32.From
              · have hm65 := hm55; rw [if_pos c64] at hm65; replace c64 := Hid.mk c64
                refine CK.condT (decT c64.out) ?_
                refine CK.seq ?_
                refine CK.reg (ks := []) (.fl 0 (.nil)) rfl ?_
                refine OKS.r rfl rfl rfl rfl (fun _ => Runs.as rfl rfl) ?_
                refine OKS.e ?_
                refine thenQ_n ?_
                refine CK.ret ?_
                refine blockQ_r ?_
                refine thenQ_r ?_
                obtain ⟨v66, hm67, e68⟩ := esc_spec hm65
                obtain rfl := jn_inr hm9 hX13 (hb20 v66 e68)
                refine thenQ_r ?_
                refine blockQ_r ?_
                refine thenQ_r ?_
                cases hm67
                exact ⟨rfl, _, (res1 rfl), φ23, _, hS30, rfl, rfl⟩
              · have hm69 := hm55; rw [if_neg c64] at hm69; replace c64 := Hid.mk c64
                refine CK.condF (decF c64.out) ?_
                refine CK.skip ?_
                refine blockQ_n ?_
                refine thenQ_n ?_
                refine CK.reg (ks := []) (.fl 0 (.fl 1 (.fl 2 (.nil)))) rfl ?_
                refine OKS.r rfl rfl rfl rfl (fun _ => Runs.mv rfl fi22) ?_
                refine OKS.r rfl rfl rfl rfl (fun _ => Runs.to (Runs.addw rfl rfl rfl) (congrArg (Value.int .i64) hi29.out)) ?_
                refine OKS.r rfl rfl rfl rfl (fun _ => Runs.as rfl rfl) ?_
                refine OKS.e ?_
                obtain rfl := Option.some.inj hm69
                exact thenQ_n ⟨rfl, _, rfl, ⟨φ23, rfl, f26, f27, le24, hS30⟩⟩
        · rintro ⟨⟩ σ70 W71 ⟨φ74, fi73, f77, f78, le75, hS76⟩ hb72
          have hm79 := jn_inl hm9 hX13 hb72
          try dsimp only at hm79
          have c80 : Hid (¬ ((↑(((↑p1.length : Int) : Int) - 0).toNat : Int) < (↑p1.length : Int))) := Hid.mk (lp_end0)
          refine CK.seq ?_
          refine CK.seq ?_
          refine CK.reg (ks := []) (.fl 0 (.fl 1 (.fl 2 (.fl 3 (.nil))))) rfl ?_
          refine OKS.r rfl rfl rfl rfl (fun _ => Runs.mv rfl fi73) ?_
          refine OKS.r rfl rfl rfl rfl (fun _ => Runs.mv rfl f78) ?_
          refine OKS.r rfl rfl rfl rfl (fun _ => Runs.len rfl rfl Try.runUnderlying47) ?_
          refine OKS.r rfl rfl rfl rfl (fun _ => Runs.lss rfl rfl rfl) ?_
          refine OKS.e ?_
          refine thenQ_n ?_
          refine CK.condF (decF c80.out) ?_
          refine CK.exit ?_
          refine thenQ_e ?_
          refine thenQ_e ?_
          refine blockQ_h ?_
          refine thenQ_n ?_
          refine CK.seq ?_
          refine CK.seq ?_
          refine CK.reg (ks := []) (.fl 0 (.nil)) rfl ?_
          refine OKS.r rfl rfl rfl rfl (fun _ => Runs.as rfl rfl) ?_
          refine OKS.e ?_
          refine thenQ_n ?_
          refine CK.block ?_
          obtain ⟨r83, hX84⟩ := jn_some hm79
          obtain ⟨hle85, hf86⟩ := forR_le hX84
          replace hle85 := Hid.mk hle85
          refine CK.forN (fun k82 _ σ_ w_ => ∃ (φ_ : PHeap), σ_ 6 = .int .i64 (↑k82 : Int) ∧ σ_ 1 = .slice pA1 p1.length pc1 ∧ PHeap.Le φ74 φ_ ∧ St ⟨w, [], φ⟩ φ_ [] w_) hf86 ?_ ?_ ?_
          · exact ⟨φ74, rfl, f78, (PHeap.Le.refl _), hS76⟩
          · rintro k82 ⟨⟩ xx89 σ87 W88 hk92 ⟨φ94, fi93, f97, le95, hS96⟩ hx90 hb91
            try dsimp only at hx90
            have c98 : Hid ((↑k82 : Int) < (↑p1.length : Int)) := Hid.mk (lp_lt0 hk92)
            replace hk92 := Hid.mk hk92
            have hi99 : Hid (w64 ((↑k82 : Int) + 1) = (↑(k82 + 1) : Int)) := Hid.mk (by have h1 := hle85.out; have h2 := c98.out; rw [w64_in] <;> omega)
            refine CK.seq ?_
            refine CK.seq ?_
            refine CK.reg (ks := []) (.fl 0 (.fl 1 (.fl 2 (.fl 3 (.nil))))) rfl ?_
            refine OKS.r rfl rfl rfl rfl (fun _ => Runs.mv rfl fi93) ?_
            refine OKS.r rfl rfl rfl rfl (fun _ => Runs.mv rfl f97) ?_
            refine OKS.r rfl rfl rfl rfl (fun _ => Runs.len rfl rfl Try.runUnderlying47) ?_
            refine OKS.r rfl rfl rfl rfl (fun _ => Runs.lss rfl rfl rfl) ?_
            refine OKS.e ?_
            refine thenQ_n ?_
            refine CK.condT (decT c98.out) ?_
            refine CK.skip ?_
            refine thenQ_n ?_
            refine CK.seq ?_
            refine CK.block ?_
            refine CK.seq ?_
            refine CK.anyOrd Try.mixed [3, 3, 3, 3, 3, 1, 3, 3, 3, 3, 3, 3, 3, 1, 3, 3, 3, 3, 3, 3, 3, 3, 1, 3, 3, 3, 3, 3, 1, 3, 3] (.fl 0 (.fl 1 (.fl 2 (.fl 3 (.fl 4 (.fl 5 (.fl 6 (.fl 7 (.fl 8 (.fl 9 (.fl 10 (.fl 11 (.fl 12 (.fl 13 (.fl 14 (.fl 15 (.fl 16 (.fl 17 (.fl 18 (.fl 19 (.fl 20 (.fl 21 (.fl 22 (.fl 23 (.fl 24 (.fl 25 (.fl 26 (.fl 27 (.fl 28 (.fl 29 (.fl 30 (.nil)))))))))))))))))))))))))))))))) (by kernel_rfl) ?_
            have hS100 := hS96.drew
            generalize hw_W101 : ({ W88 with drawn := W88.drawn + 1 } : World) = W101 at hS100 ⊢
            refine OKS.r rfl rfl rfl rfl (fun _ => Runs.mv rfl f97) ?_
            refine OKS.r rfl rfl rfl rfl (fun _ => Runs.mv rfl fi93) ?_
            obtain ⟨x102, h103, hm104⟩ := bnd hx90
            have h105 := ha0.le le75
            have h106 := h105.le le95
            obtain ⟨b107, off108, hA109, hC110⟩ := h106.el (fun _ => rfl) (idx_get h103)
            refine OKS.r rfl rfl rfl rfl (fun _ => Runs.iaN rfl rfl hA109 rfl Try.runUnderlying47 Try.sizeOf148 (idx_lt h103)) ?_
            refine OKS.r rfl rfl rfl rfl (fun _ => Runs.fa rfl rfl Try.runUnderlying148 rfl Try.sizeOf31) ?_
            refine OKS.r rfl rfl rfl rfl (fun _ => Runs.fa rfl rfl Try.runUnderlying31 rfl Try.sizeOf3) ?_
            refine OKS.m rfl rfl rfl rfl (hS100.ldC (f := 2) hC110 (v := .int .i64 x102.Loops.Lo) rfl rfl Try.isAgg3 rfl) rfl ?_
            refine OKS.r rfl rfl rfl rfl (fun _ => Runs.lss rfl rfl rfl) ?_
            refine OKS.r rfl rfl rfl rfl (fun _ => Runs.mv rfl rfl) ?_
            by_cases c111 : x102.Loops.Lo < 0
            · have hm112 := hm104; rw [if_pos c111] at hm112; replace c111 := Hid.mk c111
              refine OKS.p rfl rfl rfl (wantedN rfl rfl (decT c111.out) rfl) ?_
              refine OKS.p rfl rfl rfl (wantedN rfl rfl (decT c111.out) rfl) ?_
              refine OKS.p rfl rfl rfl (wantedN rfl rfl (decT c111.out) rfl) ?_
              refine OKS.p rfl rfl rfl (wantedN rfl rfl (decT c111.out) rfl) ?_
              refine OKS.p rfl rfl rfl (wantedN rfl rfl (decT c111.out) rfl) ?_
              refine OKS.p rfl rfl rfl (wantedN rfl rfl (decT c111.out) rfl) ?_
              refine OKS.p rfl rfl rfl (wantedN rfl rfl (decT c111.out) rfl) ?_
              refine OKS.r rfl rfl rfl rfl (fun _ => Runs.pickT rfl (decT c111.out) rfl) ?_
              refine OKS.r rfl rfl rfl rfl (fun _ => Runs.mv rfl rfl) ?_
              refine OKS.p rfl rfl rfl (wantedN rfl rfl rfl rfl) ?_
              refine OKS.p rfl rfl rfl (wantedN rfl rfl rfl rfl) ?_
              refine OKS.p rfl rfl rfl (wantedN rfl rfl rfl rfl) ?_
              refine OKS.p rfl rfl rfl (wantedN rfl rfl rfl rfl) ?_
              refine OKS.p rfl rfl rfl (wantedN rfl rfl rfl rfl) ?_
              refine OKS.p rfl rfl rfl (wantedN rfl rfl rfl rfl) ?_
              refine OKS.p rfl rfl rfl (wantedN rfl rfl rfl rfl) ?_
              refine OKS.p rfl rfl rfl (wantedN rfl rfl rfl rfl) ?_
              refine OKS.p rfl rfl rfl (wantedN rfl rfl rfl rfl) ?_
              refine OKS.p rfl rfl rfl (wantedN rfl rfl rfl rfl) ?_
              refine OKS.p rfl rfl rfl (wantedN rfl rfl rfl rfl) ?_
              refine OKS.p rfl rfl rfl (wantedN rfl rfl rfl rfl) ?_
              refine OKS.p rfl rfl rfl (wantedN rfl rfl rfl rfl) ?_
              refine OKS.r rfl rfl rfl rfl (fun _ => Runs.pickT rfl rfl rfl) ?_
              refine OKS.e ?_
              refine thenQ_n ?_
              refine CK.condT rfl ?_
              refine CK.seq ?_
              refine CK.reg (ks := []) (.fl 0 (.nil)) rfl ?_
              refine OKS.r rfl rfl rfl rfl (fun _ => Runs.as rfl rfl) ?_
              refine OKS.e ?_
              refine thenQ_n ?_
              refine CK.ret ?_
              refine blockQ_r ?_
              refine thenQ_r ?_
              obtain ⟨v113, hm114, e115⟩ := esc_spec hm112
              obtain rfl := jn_inr hm79 hX84 (hb91 v113 e115)
              refine thenQ_r ?_
              refine blockQ_r ?_
              refine thenQ_r ?_
              cases hm114
              exact ⟨rfl, _, (res1 rfl), φ94, _, hS100, rfl, rfl⟩
            · have hm116 := hm104; rw [if_neg c111] at hm116; replace c111 := Hid.mk c111
              refine OKS.r rfl rfl rfl (wantedY rfl rfl (decF c111.out)) (fun _ => Runs.mv rfl f97) ?_
              refine OKS.r rfl rfl rfl (wantedY rfl rfl (decF c111.out)) (fun _ => Runs.mv rfl fi93) ?_
              obtain ⟨b117, off118, hA119, hC120⟩ := h106.el (fun _ => rfl) (idx_get h103)
              refine OKS.r rfl rfl rfl (wantedY rfl rfl (decF c111.out)) (fun _ => Runs.iaN rfl rfl hA119 rfl Try.runUnderlying47 Try.sizeOf148 (idx_lt h103)) ?_
              refine OKS.r rfl rfl rfl (wantedY rfl rfl (decF c111.out)) (fun _ => Runs.fa rfl rfl Try.runUnderlying148 rfl Try.sizeOf31) ?_
              refine OKS.r rfl rfl rfl (wantedY rfl rfl (decF c111.out)) (fun _ => Runs.fa rfl rfl Try.runUnderlying31 rfl Try.sizeOf3) ?_
              refine OKS.m rfl rfl rfl (wantedY rfl rfl (decF c111.out)) (hS100.ldC (f := 3) hC120 (v := .int .i64 x102.Loops.Hi) rfl rfl Try.isAgg3 rfl) rfl ?_
              refine OKS.r rfl rfl rfl (wantedY rfl rfl (decF c111.out)) (fun _ => Runs.gtr rfl rfl rfl) ?_
              refine OKS.r rfl rfl rfl rfl (fun _ => Runs.pickF rfl (decF c111.out) rfl) ?_
              refine OKS.r rfl rfl rfl rfl (fun _ => Runs.mv rfl rfl) ?_
              by_cases c121 : 72 < x102.Loops.Hi
              · have hm122 := hm116; rw [if_pos c121] at hm122; replace c121 := Hid.mk c121
                refine OKS.p rfl rfl rfl (wantedN rfl rfl (decT c121.out) rfl) ?_
                refine OKS.p rfl rfl rfl (wantedN rfl rfl (decT c121.out) rfl) ?_
                refine OKS.p rfl rfl rfl (wantedN rfl rfl (decT c121.out) rfl) ?_
                refine OKS.p rfl rfl rfl (wantedN rfl rfl (decT c121.out) rfl) ?_
                refine OKS.p rfl rfl rfl (wantedN rfl rfl (decT c121.out) rfl) ?_
                refine OKS.p rfl rfl rfl (wantedN rfl rfl (decT c121.out) rfl) ?_
                refine OKS.p rfl rfl rfl (wantedN rfl rfl (decT c121.out) rfl) ?_
                refine OKS.p rfl rfl rfl (wantedN rfl rfl (decT c121.out) rfl) ?_
                refine OKS.p rfl rfl rfl (wantedN rfl rfl (decT c121.out) rfl) ?_
                refine OKS.p rfl rfl rfl (wantedN rfl rfl (decT c121.out) rfl) ?_
                refine OKS.p rfl rfl rfl (wantedN rfl rfl (decT c121.out) rfl) ?_
                refine OKS.p rfl rfl rfl (wantedN rfl rfl (decT c121.out) rfl) ?_
                refine OKS.p rfl rfl rfl (wantedN rfl rfl (decT c121.out) rfl) ?_
                refine OKS.r rfl rfl rfl rfl (fun _ => Runs.pickT rfl (decT c121.out) rfl) ?_
                refine OKS.e ?_
                refine thenQ_n ?_
                refine CK.condT rfl ?_
                refine CK.seq ?_
                refine CK.reg (ks := []) (.fl 0 (.nil)) rfl ?_
                refine OKS.r rfl rfl rfl rfl (fun _ => Runs.as rfl rfl) ?_
                refine OKS.e ?_
                refine thenQ_n ?_
                refine CK.ret ?_
                refine blockQ_r ?_
                refine thenQ_r ?_
                obtain ⟨v123, hm124, e125⟩ := esc_spec hm122
                obtain rfl := jn_inr hm79 hX84 (hb91 v123 e125)
                refine thenQ_r ?_
                refine blockQ_r ?_
                refine thenQ_r ?_
                cases hm124
                exact ⟨rfl, _, (res1 rfl), φ94, _, hS100, rfl, rfl⟩
              · have hm126 := hm116; rw [if_neg c121] at hm126; replace c121 := Hid.mk c121
                refine OKS.r rfl rfl rfl (wantedY rfl rfl (decF c121.out)) (fun _ => Runs.mv rfl f97) ?_
                refine OKS.r rfl rfl rfl (wantedY rfl rfl (decF c121.out)) (fun _ => Runs.mv rfl fi93) ?_
                obtain ⟨b127, off128, hA129, hC130⟩ := h106.el (fun _ => rfl) (idx_get h103)
                refine OKS.r rfl rfl rfl (wantedY rfl rfl (decF c121.out)) (fun _ => Runs.iaN rfl rfl hA129 rfl Try.runUnderlying47 Try.sizeOf148 (idx_lt h103)) ?_
                refine OKS.r rfl rfl rfl (wantedY rfl rfl (decF c121.out)) (fun _ => Runs.fa rfl rfl Try.runUnderlying148 rfl Try.sizeOf31) ?_
                refine OKS.r rfl rfl rfl (wantedY rfl rfl (decF c121.out)) (fun _ => Runs.fa rfl rfl Try.runUnderlying31 rfl Try.sizeOf3) ?_
                refine OKS.m rfl rfl rfl (wantedY rfl rfl (decF c121.out)) (hS100.ldC (f := 2) hC130 (v := .int .i64 x102.Loops.Lo) rfl rfl Try.isAgg3 rfl) rfl ?_
                refine OKS.r rfl rfl rfl (wantedY rfl rfl (decF c121.out)) (fun _ => Runs.mv rfl f97) ?_
                refine OKS.r rfl rfl rfl (wantedY rfl rfl (decF c121.out)) (fun _ => Runs.mv rfl fi93) ?_
                obtain ⟨b131, off132, hA133, hC134⟩ := h106.el (fun _ => rfl) (idx_get h103)
                refine OKS.r rfl rfl rfl (wantedY rfl rfl (decF c121.out)) (fun _ => Runs.iaN rfl rfl hA133 rfl Try.runUnderlying47 Try.sizeOf148 (idx_lt h103)) ?_
                refine OKS.r rfl rfl rfl (wantedY rfl rfl (decF c121.out)) (fun _ => Runs.fa rfl rfl Try.runUnderlying148 rfl Try.sizeOf31) ?_
                refine OKS.r rfl rfl rfl (wantedY rfl rfl (decF c121.out)) (fun _ => Runs.fa rfl rfl Try.runUnderlying31 rfl Try.sizeOf3) ?_
                refine OKS.m rfl rfl rfl (wantedY rfl rfl (decF c121.out)) (hS100.ldC (f := 3) hC134 (v := .int .i64 x102.Loops.Hi) rfl rfl Try.isAgg3 rfl) rfl ?_
                refine OKS.r rfl rfl rfl (wantedY rfl rfl (decF c121.out)) (fun _ => Runs.gtr rfl rfl rfl) ?_
                refine OKS.r rfl rfl rfl rfl (fun _ => Runs.pickF rfl (decF c121.out) rfl) ?_
                refine OKS.e ?_
                refine thenQ_n ?_
                by_cases c135 : x102.Loops.Hi < x102.Loops.Lo
                · have hm136 := hm126; rw [if_pos c135] at hm136; replace c135 := Hid.mk c135
                  refine CK.condT (decT c135.out) ?_
                  refine CK.seq ?_
                  refine CK.reg (ks := []) (.fl 0 (.nil)) rfl ?_
                  refine OKS.r rfl rfl rfl rfl (fun _ => Runs.as rfl rfl) ?_
                  refine OKS.e ?_
                  refine thenQ_n ?_
                  refine CK.ret ?_
                  refine blockQ_r ?_
                  refine thenQ_r ?_
                  obtain ⟨v137, hm138, e139⟩ := esc_spec hm136
                  obtain rfl := jn_inr hm79 hX84 (hb91 v137 e139)
                  refine thenQ_r ?_
                  refine blockQ_r ?_
                  refine thenQ_r ?_
                  cases hm138
                  exact ⟨rfl, _, (res1 rfl), φ94, _, hS100, rfl, rfl⟩
                · have hm140 := hm126; rw [if_neg c135] at hm140; replace c135 := Hid.mk c135
                  refine CK.condF (decF c135.out) ?_
                  refine CK.skip ?_
                  refine blockQ_n ?_
                  refine thenQ_n ?_
                  refine CK.reg (ks := []) (.fl 0 (.fl 1 (.fl 2 (.nil)))) rfl ?_
                  refine OKS.r rfl rfl rfl rfl (fun _ => Runs.mv rfl fi93) ?_
                  refine OKS.r rfl rfl rfl rfl (fun _ => Runs.to (Runs.addw rfl rfl rfl) (congrArg (Value.int .i64) hi99.out)) ?_
                  refine OKS.r rfl rfl rfl rfl (fun _ => Runs.as rfl rfl) ?_
                  refine OKS.e ?_
                  obtain rfl := Option.some.inj hm140
                  exact thenQ_n ⟨rfl, _, rfl, ⟨φ94, rfl, f97, le95, hS100⟩⟩
          · rintro ⟨⟩ σ141 W142 ⟨φ145, fi144, f148, le146, hS147⟩ hb143
            have hm149 := jn_inl hm79 hX84 hb143
            try dsimp only at hm149
            have c150 : Hid (¬ ((↑(((↑p1.length : Int) : Int) - 0).toNat : Int) < (↑p1.length : Int))) := Hid.mk (lp_end0)
            refine CK.seq ?_
            refine CK.seq ?_
            refine CK.reg (ks := []) (.fl 0 (.fl 1 (.fl 2 (.fl 3 (.nil))))) rfl ?_
            refine OKS.r rfl rfl rfl rfl (fun _ => Runs.mv rfl fi144) ?_
            refine OKS.r rfl rfl rfl rfl (fun _ => Runs.mv rfl f148) ?_
            refine OKS.r rfl rfl rfl rfl (fun _ => Runs.len rfl rfl Try.runUnderlying47) ?_
            refine OKS.r rfl rfl rfl rfl (fun _ => Runs.lss rfl rfl rfl) ?_
            refine OKS.e ?_
            refine thenQ_n ?_
            refine CK.condF (decF c150.out) ?_
            refine CK.exit ?_
            refine thenQ_e ?_
            refine thenQ_e ?_
            refine blockQ_h ?_
            refine thenQ_n ?_
            refine CK.seq ?_
            refine CK.reg (ks := []) (.fl 0 (.nil)) rfl ?_
            refine OKS.r rfl rfl rfl rfl (fun _ => Runs.as rfl rfl) ?_
            refine OKS.e ?_
            refine thenQ_n ?_
            refine CK.ret ?_
            cases hm149
            exact ⟨rfl, _, (res1 rfl), φ145, _, hS147, rfl, rfl⟩

set_option maxHeartbeats 4000000 in
theorem w_target_CheckSheets_1 (p0 : T_target_Sheet) (p1 : Int) (pb1 : Nat) (w : World) (φ : PHeap) (hS : St ⟨w, [], φ⟩ φ [] w) (ha0 : Cl φ pb1 0 [.int .i64 p1]) {r : Bool} (hm : m_target_CheckSheets_1 p0 p1 = some r) : Gv Try.prog 84 [.agg #[.int .i64 p0.From, .int .i64 p0.To, .int .i64 p0.Loops.Lo, .int .i64 p0.Loops.Hi], .pointer (some ⟨pb1, 0, none⟩)] w (RetS w [] φ (fun φ_ L_ v => v = .bool r ∧ L_ = [])) := by
  unfold m_target_CheckSheets_1 at hm
  refine Gv.of Try.func84 rfl Try.ntmps84 Try.results84 rfl ?_
  refine CK.seq ?_
  refine CK.reg (ks := []) (.fx 0 (.fl 1 (.nil)) .stop) rfl ?_
  refine OKS.box (cs := [.int .i64 p0.From, .int .i64 p0.To, .int .i64 p0.Loops.Lo, .int .i64 p0.Loops.Hi]) rfl rfl rfl rfl rfl rfl (by rfl) hS ?_
  intro W1 b2 hS3
  refine OKS.r rfl rfl rfl rfl (fun _ => Runs.as rfl rfl) ?_
  refine OKS.e ?_
  refine thenQ_n ?_
  refine CK.seq ?_
  refine CK.reg (ks := []) (.fl 0 (.fl 1 (.fl 2 (.fl 3 (.fx 4 (.fl 5 (.fl 6 (.fl 7 (.fl 8 (.fl 9 (.fl 10 (.fl 11 (.nil)))))))) .stop))))) rfl ?_
  refine OKS.r rfl rfl rfl rfl (fun _ => Runs.fa rfl rfl Try.runUnderlying33 rfl Try.sizeOf3) ?_
  refine OKS.m rfl rfl rfl rfl (hS3.ldB (j := 0) rfl rfl rfl Try.isAgg3 (v := .int .i64 p0.From) rfl) rfl ?_
  refine OKS.r rfl rfl rfl rfl (fun _ => Runs.fa rfl rfl Try.runUnderlying33 rfl Try.sizeOf3) ?_
  refine OKS.m rfl rfl rfl rfl (hS3.ldB (j := 0) rfl rfl rfl Try.isAgg3 (v := .int .i64 p0.To) rfl) rfl ?_
  obtain ⟨x5, h6, hm7⟩ := bnd hm
  refine OKS.callH 0 rfl rfl rfl rfl (Enters.mk rfl rfl Try.call82 (mapcons rfl (mapcons rfl (mapcons rfl mapnil))) rfl) hS3 (fun hs => w_target_within p0.From 0 p0.To W1 φ hs h6) (.inr rfl) ?_
  rintro φ8 L9 v10 W11 le12 hS13 ⟨rfl, rfl⟩
  have hS14 : St ⟨w, [], φ⟩ φ8 [.blk b2 33 [.int .i64 p0.From, .int .i64 p0.To, .int .i64 p0.Loops.Lo, .int .i64 p0.Loops.Hi]] W11 := hS13
  refine OKS.r rfl rfl rfl rfl (fun _ => Runs.mv rfl rfl) ?_
  by_cases c15 : x5 = true
  · have hm16 := hm7; rw [if_pos c15] at hm16; replace c15 := Hid.mk c15
    refine OKS.r rfl rfl rfl (wantedY rfl rfl (congrArg Value.bool c15.out)) (fun _ => Runs.fa rfl rfl Try.runUnderlying33 rfl Try.sizeOf3) ?_
    refine OKS.m rfl rfl rfl (wantedY rfl rfl (congrArg Value.bool c15.out)) (hS14.ldB (j := 0) rfl rfl rfl Try.isAgg3 (v := .int .i64 p0.To) rfl) rfl ?_
    have h17 := ha0.le le12
    refine OKS.m rfl rfl rfl (wantedY rfl rfl (congrArg Value.bool c15.out)) (hS14.ldC (f := 0) h17 (v := .int .i64 p1) rfl rfl Try.isAgg3 rfl) rfl ?_
    refine OKS.r rfl rfl rfl (wantedY rfl rfl (congrArg Value.bool c15.out)) (fun _ => Runs.lss rfl rfl rfl) ?_
    refine OKS.r rfl rfl rfl rfl (fun _ => Runs.pickT rfl (congrArg Value.bool c15.out) rfl) ?_
    refine OKS.r rfl rfl rfl rfl (fun _ => Runs.as rfl rfl) ?_
    refine OKS.e ?_
    refine thenQ_n ?_
    refine CK.ret ?_
    cases hm16
    exact ⟨rfl, _, (res1 rfl), φ8, _, (hS14.pick [] _ (by decide) rfl), rfl, rfl⟩
  · have hm18 := hm7; rw [if_neg c15] at hm18; replace c15 := Hid.mk c15
    refine OKS.p rfl rfl rfl (wantedN rfl rfl (congrArg Value.bool (Bool.eq_false_iff.2 c15.out)) rfl) ?_
    refine OKS.p rfl rfl rfl (wantedN rfl rfl (congrArg Value.bool (Bool.eq_false_iff.2 c15.out)) rfl) ?_
    refine OKS.p rfl rfl rfl (wantedN rfl rfl (congrArg Value.bool (Bool.eq_false_iff.2 c15.out)) rfl) ?_
    refine OKS.p rfl rfl rfl (wantedN rfl rfl (congrArg Value.bool (Bool.eq_false_iff.2 c15.out)) rfl) ?_
    refine OKS.r rfl rfl rfl rfl (fun _ => Runs.pickF rfl (congrArg Value.bool (Bool.eq_false_iff.2 c15.out)) rfl) ?_
    refine OKS.r rfl rfl rfl rfl (fun _ => Runs.as rfl rfl) ?_
    refine OKS.e ?_
    refine thenQ_n ?_
    refine CK.ret ?_
    cases hm18
    exact ⟨rfl, _, (res1 rfl), φ8, _, (hS14.pick [] _ (by decide) rfl), rfl, rfl⟩

set_option maxHeartbeats 4000000 in
theorem w_target_all_target_Sheet_1 (p0 : T_target_Sheet) (p1 : (T_target_Sheet → Option Bool)) (pb1 : Nat) (pv1 : Value) (w : World) (φ : PHeap) (hS : St ⟨w, [], φ⟩ φ [] w) (ha0 : Cl φ pb1 0 [pv1]) (ha1 : FnOK Try.prog φ pv1 ar151 rr151 p1) {r : Bool} (hm : m_target_all_target_Sheet_1 p0 p1 = some r) : Gv Try.prog 129 [.agg #[.int .i64 p0.From, .int .i64 p0.To, .int .i64 p0.Loops.Lo, .int .i64 p0.Loops.Hi], .pointer (some ⟨pb1, 0, none⟩)] w (RetS w [] φ (fun φ_ L_ v => v = .bool r ∧ L_ = [])) := by
  unfold m_target_all_target_Sheet_1 at hm
  refine Gv.of Try.func129 rfl Try.ntmps129 Try.results129 rfl ?_
  refine CK.seq ?_
  refine CK.reg (ks := []) (.fx 0 (.fl 1 (.nil)) .stop) rfl ?_
  refine OKS.box (cs := [.int .i64 p0.From, .int .i64 p0.To, .int .i64 p0.Loops.Lo, .int .i64 p0.Loops.Hi]) rfl rfl rfl rfl rfl rfl (by rfl) hS ?_
  intro W1 b2 hS3
  refine OKS.r rfl rfl rfl rfl (fun _ => Runs.as rfl rfl) ?_
  refine OKS.e ?_
  refine thenQ_n ?_
  refine CK.seq ?_
  refine CK.reg (ks := []) (.fl 0 (.fl 1 (.fx 2 (.fl 3 (.fl 4 (.nil))) .stop))) rfl ?_
  refine OKS.m rfl rfl rfl rfl (hS3.ldC (f := 0) ha0 (v := pv1) rfl rfl Try.isAgg151 rfl) rfl ?_
  refine OKS.m rfl rfl rfl rfl (hS3.ldBA (j := 0) rfl rfl rfl Try.isAgg33 Try.sizeOf33 (vs := [.int .i64 p0.From, .int .i64 p0.To, .int .i64 p0.Loops.Lo, .int .i64 p0.Loops.Hi]) rfl rfl) rfl ?_
  obtain ⟨x5, h6, hm7⟩ := bnd hm
  refine OKS.callV (a := p0) rfl rfl rfl rfl rfl rfl (mapcons rfl mapnil) hS3 ha1 rfl h6 ?_
  rintro φ8 L9 v10 W11 le12 hS13 ⟨rfl, rfl⟩
  have hS14 : St ⟨w, [], φ⟩ φ8 [.blk b2 33 [.int .i64 p0.From, .int .i64 p0.To, .int .i64 p0.Loops.Lo, .int .i64 p0.Loops.Hi]] W11 := hS13
  refine OKS.r rfl rfl rfl rfl (fun _ => Runs.notT rfl rfl) ?_
  refine OKS.r rfl rfl rfl rfl (fun _ => Runs.as rfl rfl) ?_
  refine OKS.e ?_
  refine thenQ_n ?_
  refine CK.ret ?_
  cases hm7
  exact ⟨rfl, _, (res1 rfl), φ8, _, (hS14.pick [] _ (by decide) rfl), rfl, rfl⟩

set_option maxHeartbeats 4000000 in
theorem w_slices_IndexFunc_target_Sheet_target_Sheet (p0 : List T_target_Sheet) (pA0 : Option Addr) (pc0 : Nat) (p1 : (T_target_Sheet → Option Bool)) (pv1 : Value) (w : World) (φ : PHeap) (hS : St ⟨w, [], φ⟩ φ [] w) (ha0 : Sl φ 4 pA0 pc0 p0.length (List.flatMap encT_target_Sheet p0)) (ha1 : FnOK Try.prog φ pv1 ar151 rr151 p1) {r : Int} (hm : m_slices_IndexFunc_target_Sheet_target_Sheet p0 p1 = some r) : Gv Try.prog 145 [.slice pA0 p0.length pc0, pv1] w (RetS w [] φ (fun φ_ L_ v => v = .int .i64 r ∧ L_ = [])) := by
  unfold m_slices_IndexFunc_target_Sheet_target_Sheet at hm
  refine Gv.of Try.func145 rfl Try.ntmps145 Try.results145 rfl ?_
  refine CK.seq ?_
  refine CK.reg (ks := []) (.fl 0 (.nil)) rfl ?_
  refine OKS.r rfl rfl rfl rfl (fun _ => Runs.as rfl rfl) ?_
  refine OKS.e ?_
  refine thenQ_n ?_
  refine CK.seq ?_
  refine CK.seq ?_
  refine CK.reg (ks := []) (.fl 0 (.fl 1 (.fl 2 (.nil)))) rfl ?_
  refine OKS.r rfl rfl rfl rfl (fun _ => Runs.mv rfl rfl) ?_
  refine OKS.r rfl rfl rfl rfl (fun _ => Runs.len rfl rfl Try.runUnderlying24) ?_
  refine OKS.r rfl rfl rfl rfl (fun _ => Runs.mv rfl rfl) ?_
  refine OKS.e ?_
  refine thenQ_n ?_
  refine CK.block ?_
  obtain ⟨r3, hX4⟩ := jn_some hm
  obtain ⟨hle5, hf6⟩ := forR_le hX4
  replace hle5 := Hid.mk hle5
  refine CK.forN (fun k2 _ σ_ w_ => ∃ (φ_ : PHeap), σ_ 8 = .int .i64 (↑k2 : Int) ∧ σ_ 0 = .slice pA0 p0.length pc0 ∧ σ_ 1 = pv1 ∧ σ_ 7 = .int .i64 (↑p0.length : Int) ∧ PHeap.Le φ φ_ ∧ St ⟨w, [], φ⟩ φ_ [] w_) hf6 ?_ ?_ ?_
  · exact ⟨φ, rfl, rfl, rfl, rfl, (PHeap.Le.refl _), hS⟩
  · rintro k2 ⟨⟩ xx9 σ7 W8 hk12 ⟨φ14, fi13, f17, f18, f19, le15, hS16⟩ hx10 hb11
    try dsimp only at hx10
    have c20 : Hid ((↑k2 : Int) < (↑p0.length : Int)) := Hid.mk (lp_lt0 hk12)
    replace hk12 := Hid.mk hk12
    have hi21 : Hid (w64 ((↑k2 : Int) + 1) = (↑(k2 + 1) : Int)) := Hid.mk (by have h1 := hle5.out; have h2 := c20.out; rw [w64_in] <;> omega)
    refine CK.seq ?_
    refine CK.reg (ks := []) (.fl 0 (.nil)) rfl ?_
    refine OKS.r rfl rfl rfl rfl (fun _ => Runs.lss rfl fi13 f19) ?_
    refine OKS.e ?_
    refine thenQ_n ?_
    refine CK.seq ?_
    refine CK.condT (decT c20.out) ?_
    refine CK.skip ?_
    refine thenQ_n ?_
    refine CK.seq ?_
    refine CK.block ?_
    refine CK.seq ?_
    refine CK.reg (ks := []) (.fl 0 (.fl 1 (.nil))) rfl ?_
    refine OKS.r rfl rfl rfl rfl (fun _ => Runs.mv rfl fi13) ?_
    refine OKS.r rfl rfl rfl rfl (fun _ => Runs.as rfl rfl) ?_
    refine OKS.e ?_
    refine thenQ_n ?_
    refine CK.seq ?_
    refine CK.reg (ks := []) (.fl 0 (.fl 1 (.fl 2 (.fl 3 (.fl 4 (.fx 5 (.nil) .stop)))))) rfl ?_
    refine OKS.r rfl rfl rfl rfl (fun _ => Runs.mv rfl f18) ?_
    refine OKS.r rfl rfl rfl rfl (fun _ => Runs.mv rfl f17) ?_
    refine OKS.r rfl rfl rfl rfl (fun _ => Runs.mv rfl rfl) ?_
    obtain ⟨x22, h23, hm24⟩ := bnd hx10
    have h25 := ha0.le le15
    obtain ⟨b26, off27, hA28, hC29⟩ := h25.el (fun _ => rfl) (idx_get h23)
    refine OKS.r rfl rfl rfl rfl (fun _ => Runs.iaN rfl rfl hA28 rfl Try.runUnderlying24 Try.sizeOf33 (idx_lt h23)) ?_
    refine OKS.m rfl rfl rfl rfl (hS16.ldCA (f := 0) hC29 rfl rfl Try.isAgg33 Try.sizeOf33 (us := [.int .i64 x22.From, .int .i64 x22.To, .int .i64 x22.Loops.Lo, .int .i64 x22.Loops.Hi]) rfl rfl) rfl ?_
    obtain ⟨x30, h31, hm32⟩ := bnd hm24
    have h39 := ha1.le le15
    refine OKS.callV (a := x22) rfl rfl rfl rfl rfl rfl (mapcons rfl mapnil) hS16 h39 rfl h31 ?_
    rintro φ33 L34 v35 W36 le37 hS38 ⟨rfl, rfl⟩
    have hS40 : St ⟨w, [], φ⟩ φ33 [] W36 := hS38
    refine OKS.e ?_
    refine thenQ_n ?_
    by_cases c41 : x30 = true
    · have hm42 := hm32; rw [if_pos c41] at hm42; replace c41 := Hid.mk c41
      refine CK.condT (congrArg Value.bool c41.out) ?_
      refine CK.seq ?_
      refine CK.reg (ks := []) (.fl 0 (.fl 1 (.nil))) rfl ?_
      refine OKS.r rfl rfl rfl rfl (fun _ => Runs.mv rfl rfl) ?_
      refine OKS.r rfl rfl rfl rfl (fun _ => Runs.as rfl rfl) ?_
      refine OKS.e ?_
      refine thenQ_n ?_
      refine CK.ret ?_
      refine blockQ_r ?_
      refine thenQ_r ?_
      obtain ⟨v43, hm44, e45⟩ := esc_spec hm42
      obtain rfl := jn_inr hm hX4 (hb11 v43 e45)
      refine thenQ_r ?_
      refine blockQ_r ?_
      refine thenQ_r ?_
      cases hm44
      exact ⟨rfl, _, (res1 rfl), φ33, _, hS40, rfl, rfl⟩
    · have hm46 := hm32; rw [if_neg c41] at hm46; replace c41 := Hid.mk c41
      refine CK.condF (congrArg Value.bool (Bool.eq_false_iff.2 c41.out)) ?_
      refine CK.skip ?_
      refine blockQ_n ?_
      refine thenQ_n ?_
      refine CK.reg (ks := []) (.fl 0 (.fl 1 (.nil))) rfl ?_
      refine OKS.r rfl rfl rfl rfl (fun _ => Runs.to (Runs.addw rfl fi13 rfl) (congrArg (Value.int .i64) hi21.out)) ?_
      refine OKS.r rfl rfl rfl rfl (fun _ => Runs.mv rfl rfl) ?_
      refine OKS.e ?_
      obtain rfl := Option.some.inj hm46
      exact thenQ_n ⟨rfl, _, rfl, ⟨φ33, rfl, f17, f18, f19, (le15.trans le37), hS40⟩⟩
  · rintro ⟨⟩ σ47 W48 ⟨φ51, fi50, f54, f55, f56, le52, hS53⟩ hb49
    have hm57 := jn_inl hm hX4 hb49
    try dsimp only at hm57
    have c58 : Hid (¬ ((↑(((↑p0.length : Int) : Int) - 0).toNat : Int) < (↑p0.length : Int))) := Hid.mk (lp_end0)
    refine CK.seq ?_
    refine CK.reg (ks := []) (.fl 0 (.nil)) rfl ?_
    refine OKS.r rfl rfl rfl rfl (fun _ => Runs.lss rfl fi50 f56) ?_
    refine OKS.e ?_
    refine thenQ_n ?_
    refine CK.seq ?_
    refine CK.condF (decF c58.out) ?_
    refine CK.exit ?_
    refine thenQ_e ?_
    refine thenQ_e ?_
    refine blockQ_h ?_
    refine thenQ_n ?_
    refine CK.seq ?_
    refine CK.reg (ks := []) (.fl 0 (.nil)) rfl ?_
    refine OKS.r rfl rfl rfl rfl (fun _ => Runs.as rfl rfl) ?_
    refine OKS.e ?_
    refine thenQ_n ?_
    refine CK.ret ?_
    cases hm57
    exact ⟨rfl, _, (res1 rfl), φ51, _, hS53, rfl, rfl⟩

set_option maxHeartbeats 4000000 in
theorem w_slices_ContainsFunc_target_Sheet_target_Sheet (p0 : List T_target_Sheet) (pA0 : Option Addr) (pc0 : Nat) (p1 : (T_target_Sheet → Option Bool)) (pv1 : Value) (w : World) (φ : PHeap) (hS : St ⟨w, [], φ⟩ φ [] w) (ha0 : Sl φ 4 pA0 pc0 p0.length (List.flatMap encT_target_Sheet p0)) (ha1 : FnOK Try.prog φ pv1 ar151 rr151 p1) {r : Bool} (hm : m_slices_ContainsFunc_target_Sheet_target_Sheet p0 p1 = some r) : Gv Try.prog 128 [.slice pA0 p0.length pc0, pv1] w (RetS w [] φ (fun φ_ L_ v => v = .bool r ∧ L_ = [])) := by
  unfold m_slices_ContainsFunc_target_Sheet_target_Sheet at hm
  refine Gv.of Try.func128 rfl Try.ntmps128 Try.results128 rfl ?_
  refine CK.seq ?_
  refine CK.reg (ks := []) (.fl 0 (.nil)) rfl ?_
  refine OKS.r rfl rfl rfl rfl (fun _ => Runs.as rfl rfl) ?_
  refine OKS.e ?_
  refine thenQ_n ?_
  refine CK.seq ?_
  refine CK.reg (ks := []) (.fl 0 (.fl 1 (.fx 2 (.fl 3 (.fl 4 (.nil))) .stop))) rfl ?_
  refine OKS.r rfl rfl rfl rfl (fun _ => Runs.mv rfl rfl) ?_
  refine OKS.r rfl rfl rfl rfl (fun _ => Runs.mv rfl rfl) ?_
  obtain ⟨x1, h2, hm3⟩ := bnd hm
  refine OKS.callH 0 rfl rfl rfl rfl (Enters.mk rfl rfl Try.call145 (mapcons rfl (mapcons rfl mapnil)) rfl) hS (fun hs => w_slices_IndexFunc_target_Sheet_target_Sheet p0 pA0 pc0 p1 pv1 w φ hs ha0 ha1 h2) (.inr rfl) ?_
  rintro φ4 L5 v6 W7 le8 hS9 ⟨rfl, rfl⟩
  have hS10 : St ⟨w, [], φ⟩ φ4 [] W7 := hS9
  refine OKS.r rfl rfl rfl rfl (fun _ => Runs.geq rfl rfl rfl) ?_
  refine OKS.r rfl rfl rfl rfl (fun _ => Runs.as rfl rfl) ?_
  refine OKS.e ?_
  refine thenQ_n ?_
  refine CK.ret ?_
  cases hm3
  exact ⟨rfl, _, (res1 rfl), φ4, _, hS10, rfl, rfl⟩

set_option maxHeartbeats 4000000 in
theorem w_target_all_target_Sheet (p0 : List T_target_Sheet) (pA0 : Option Addr) (pc0 : Nat) (p1 : (T_target_Sheet → Option Bool)) (pv1 : Value) (w : World) (φ : PHeap) (hS : St ⟨w, [], φ⟩ φ [] w) (ha0 : Sl φ 4 pA0 pc0 p0.length (List.flatMap encT_target_Sheet p0)) (ha1 : FnOK Try.prog φ pv1 ar151 rr151 p1) {r : Bool} (hm : m_target_all_target_Sheet p0 p1 = some r) : Gv Try.prog 83 [.slice pA0 p0.length pc0, pv1] w (RetS w [] φ (fun φ_ L_ v => v = .bool r ∧ L_ = [])) := by
  unfold m_target_all_target_Sheet at hm
  refine Gv.of Try.func83 rfl Try.ntmps83 Try.results83 rfl ?_
  refine CK.seq ?_
  refine CK.reg (ks := []) (.fx 0 (.fl 1 (.nil)) .stop) rfl ?_
  refine OKS.box (cs := [pv1]) rfl rfl rfl rfl rfl rfl (FnOK.cells ha1) hS ?_
  intro W1 b2 hS3
  obtain ⟨φ5, le6, hC7, hS8⟩ := hS3.freeze (k := 0) rfl
  replace hC7 := Cl.of hC7
  have hS9 : St ⟨w, [], φ⟩ φ5 [] W1 := hS8
  replace hC7 : Cl φ5 b2 0 [pv1] := hC7
  refine OKS.r rfl rfl rfl rfl (fun _ => Runs.as rfl rfl) ?_
  refine OKS.e ?_
  refine thenQ_n ?_
  refine CK.seq ?_
  refine CK.reg (ks := []) (.fl 0 (.fl 1 (.fx 2 (.fl 3 (.fl 4 (.nil))) .stop))) rfl ?_
  refine OKS.r rfl rfl rfl rfl (fun _ => Runs.mv rfl rfl) ?_
  refine OKS.r rfl rfl rfl rfl (fun _ => Runs.mkf rfl mapnil (mapcons rfl mapnil)) ?_
  have h10 := ha0.le le6
  have h11 := ha1.le le6
  have hF12 : FnOK Try.prog φ5 (.func (.func 129) #[] #[.pointer (some ⟨b2, 0, none⟩)]) ar151 rr151 (fun x => m_target_all_target_Sheet_1 x p1) := ⟨129, [], [.pointer (some ⟨b2, 0, none⟩)], rfl, Try.call129, fun φ1 w1 x y vs le hs ha hm => by obtain rfl := ha; exact w_target_all_target_Sheet_1 x p1 b2 pv1 w1 φ1 hs (hC7.le le) (h11.le le) hm⟩
  obtain ⟨x13, h14, hm15⟩ := bnd hm
  refine OKS.callH 0 rfl rfl rfl rfl (Enters.mk rfl rfl Try.call128 (mapcons rfl (mapcons rfl mapnil)) rfl) hS9 (fun hs => w_slices_ContainsFunc_target_Sheet_target_Sheet p0 pA0 pc0 (fun x => m_target_all_target_Sheet_1 x p1) (.func (.func 129) #[] #[.pointer (some ⟨b2, 0, none⟩)]) W1 φ5 hs h10 hF12 h14) (.inr rfl) ?_
  rintro φ16 L17 v18 W19 le20 hS21 ⟨rfl, rfl⟩
  have hS22 : St ⟨w, [], φ⟩ φ16 [] W19 := hS21
  refine OKS.r rfl rfl rfl rfl (fun _ => Runs.notT rfl rfl) ?_
  refine OKS.r rfl rfl rfl rfl (fun _ => Runs.as rfl rfl) ?_
  refine OKS.e ?_
  refine thenQ_n ?_
  refine CK.ret ?_
  cases hm15
  exact ⟨rfl, _, (res1 rfl), φ16, _, hS22, rfl, rfl⟩

set_option maxHeartbeats 4000000 in
theorem w_target_CheckSheets_2 (p0 : T_target_Sheet) (w : World) (φ : PHeap) (hS : St ⟨w, [], φ⟩ φ [] w)  {r : Bool} (hm : m_target_CheckSheets_2 p0 = some r) : Gv Try.prog 85 [.agg #[.int .i64 p0.From, .int .i64 p0.To, .int .i64 p0.Loops.Lo, .int .i64 p0.Loops.Hi]] w (RetS w [] φ (fun φ_ L_ v => v = .bool r ∧ L_ = [])) := by
  unfold m_target_CheckSheets_2 at hm
  refine Gv.of Try.func85 rfl Try.ntmps85 Try.results85 rfl ?_
  refine CK.seq ?_
  refine CK.reg (ks := []) (.fx 0 (.fl 1 (.nil)) .stop) rfl ?_
  refine OKS.box (cs := [.int .i64 p0.From, .int .i64 p0.To, .int .i64 p0.Loops.Lo, .int .i64 p0.Loops.Hi]) rfl rfl rfl rfl rfl rfl (by rfl) hS ?_
  intro W1 b2 hS3
  refine OKS.r rfl rfl rfl rfl (fun _ => Runs.as rfl rfl) ?_
  refine OKS.e ?_
  refine thenQ_n ?_
  refine CK.seq ?_
  refine CK.reg (ks := []) (.fl 0 (.fl 1 (.fl 2 (.fl 3 (.fl 4 (.fl 5 (.fx 6 (.fl 7 (.fl 8 (.fl 9 (.fl 10 (.fl 11 (.fl 12 (.fl 13 (.nil)))))))) .stop))))))) rfl ?_
  refine OKS.r rfl rfl rfl rfl (fun _ => Runs.fa rfl rfl Try.runUnderlying33 rfl Try.sizeOf31) ?_
  refine OKS.r rfl rfl rfl rfl (fun _ => Runs.fa rfl rfl Try.runUnderlying31 rfl Try.sizeOf3) ?_
  refine OKS.m rfl rfl rfl rfl (hS3.ldB (j := 0) rfl rfl rfl Try.isAgg3 (v := .int .i64 p0.Loops.Lo) rfl) rfl ?_
  refine OKS.r rfl rfl rfl rfl (fun _ => Runs.fa rfl rfl Try.runUnderlying33 rfl Try.sizeOf31) ?_
  refine OKS.r rfl rfl rfl rfl (fun _ => Runs.fa rfl rfl Try.runUnderlying31 rfl Try.sizeOf3) ?_
  refine OKS.m rfl rfl rfl rfl (hS3.ldB (j := 0) rfl rfl rfl Try.isAgg3 (v := .int .i64 p0.Loops.Hi) rfl) rfl ?_
  obtain ⟨x5, h6, hm7⟩ := bnd hm
  refine OKS.callH 0 rfl rfl rfl rfl (Enters.mk rfl rfl Try.call82 (mapcons rfl (mapcons rfl (mapcons rfl mapnil))) rfl) hS3 (fun hs => w_target_within p0.Loops.Lo 0 p0.Loops.Hi W1 φ hs h6) (.inr rfl) ?_
  rintro φ8 L9 v10 W11 le12 hS13 ⟨rfl, rfl⟩
  have hS14 : St ⟨w, [], φ⟩ φ8 [.blk b2 33 [.int .i64 p0.From, .int .i64 p0.To, .int .i64 p0.Loops.Lo, .int .i64 p0.Loops.Hi]] W11 := hS13
  refine OKS.r rfl rfl rfl rfl (fun _ => Runs.mv rfl rfl) ?_
  by_cases c15 : x5 = true
  · have hm16 := hm7; rw [if_pos c15] at hm16; replace c15 := Hid.mk c15
    refine OKS.r rfl rfl rfl (wantedY rfl rfl (congrArg Value.bool c15.out)) (fun _ => Runs.fa rfl rfl Try.runUnderlying33 rfl Try.sizeOf31) ?_
    refine OKS.r rfl rfl rfl (wantedY rfl rfl (congrArg Value.bool c15.out)) (fun _ => Runs.fa rfl rfl Try.runUnderlying31 rfl Try.sizeOf3) ?_
    refine OKS.m rfl rfl rfl (wantedY rfl rfl (congrArg Value.bool c15.out)) (hS14.ldB (j := 0) rfl rfl rfl Try.isAgg3 (v := .int .i64 p0.Loops.Hi) rfl) rfl ?_
    refine OKS.r rfl rfl rfl (wantedY rfl rfl (congrArg Value.bool c15.out)) (fun _ => Runs.leq rfl rfl rfl) ?_
    refine OKS.r rfl rfl rfl rfl (fun _ => Runs.pickT rfl (congrArg Value.bool c15.out) rfl) ?_
    refine OKS.r rfl rfl rfl rfl (fun _ => Runs.as rfl rfl) ?_
    refine OKS.e ?_
    refine thenQ_n ?_
    refine CK.ret ?_
    cases hm16
    exact ⟨rfl, _, (res1 rfl), φ8, _, (hS14.pick [] _ (by decide) rfl), rfl, rfl⟩
  · have hm17 := hm7; rw [if_neg c15] at hm17; replace c15 := Hid.mk c15
    refine OKS.p rfl rfl rfl (wantedN rfl rfl (congrArg Value.bool (Bool.eq_false_iff.2 c15.out)) rfl) ?_
    refine OKS.p rfl rfl rfl (wantedN rfl rfl (congrArg Value.bool (Bool.eq_false_iff.2 c15.out)) rfl) ?_
    refine OKS.p rfl rfl rfl (wantedN rfl rfl (congrArg Value.bool (Bool.eq_false_iff.2 c15.out)) rfl) ?_
    refine OKS.p rfl rfl rfl (wantedN rfl rfl (congrArg Value.bool (Bool.eq_false_iff.2 c15.out)) rfl) ?_
    refine OKS.r rfl rfl rfl rfl (fun _ => Runs.pickF rfl (congrArg Value.bool (Bool.eq_false_iff.2 c15.out)) rfl) ?_
    refine OKS.r rfl rfl rfl rfl (fun _ => Runs.as rfl rfl) ?_
    refine OKS.e ?_
    refine thenQ_n ?_
    refine CK.ret ?_
    cases hm17
    exact ⟨rfl, _, (res1 rfl), φ8, _, (hS14.pick [] _ (by decide) rfl), rfl, rfl⟩

set_option maxHeartbeats 4000000 in
theorem w_target_CheckSheets (p0 : Int) (p1 : List T_target_Sheet) (pA1 : Option Addr) (pc1 : Nat) (w : World) (φ : PHeap) (hS : St ⟨w, [], φ⟩ φ [] w) (ha0 : Sl φ 4 pA1 pc1 p1.length (List.flatMap encT_target_Sheet p1)) {r : Int} (hm : m_target_CheckSheets p0 p1 = some r) : Gv Try.prog 27 [.int .i64 p0, .slice pA1 p1.length pc1] w (RetS w [] φ (fun φ_ L_ v => v = .int .i64 r ∧ L_ = [])) := by
  unfold m_target_CheckSheets at hm
  refine Gv.of Try.func27 rfl Try.ntmps27 Try.results27 rfl ?_
  refine CK.seq ?_
  refine CK.reg (ks := []) (.fx 0 (.fl 1 (.nil)) .stop) rfl ?_
  refine OKS.box (cs := [.int .i64 p0]) rfl rfl rfl rfl rfl rfl (by rfl) hS ?_
  intro W1 b2 hS3
  obtain ⟨φ5, le6, hC7, hS8⟩ := hS3.freeze (k := 0) rfl
  replace hC7 := Cl.of hC7
  have hS9 : St ⟨w, [], φ⟩ φ5 [] W1 := hS8
  replace hC7 : Cl φ5 b2 0 [.int .i64 p0] := hC7
  refine OKS.r rfl rfl rfl rfl (fun _ => Runs.as rfl rfl) ?_
  refine OKS.e ?_
  refine thenQ_n ?_
  refine CK.seq ?_
  refine CK.block ?_
  refine CK.seq ?_
  refine CK.reg (ks := []) (.fl 0 (.fx 1 (.fl 2 (.fl 3 (.fl 4 (.fl 5 (.fl 6 (.fl 7 (.fl 8 (.nil)))))))) .stop)) rfl ?_
  refine OKS.m rfl rfl rfl rfl (hS9.ldC (f := 0) hC7 (v := .int .i64 p0) rfl rfl Try.isAgg3 rfl) rfl ?_
  obtain ⟨x10, h11, hm12⟩ := bnd hm
  refine OKS.callH 0 rfl rfl rfl rfl (Enters.mk rfl rfl Try.call82 (mapcons rfl (mapcons rfl (mapcons rfl mapnil))) rfl) hS9 (fun hs => w_target_within p0 1 8 W1 φ5 hs h11) (.inr rfl) ?_
  rintro φ13 L14 v15 W16 le17 hS18 ⟨rfl, rfl⟩
  have hS19 : St ⟨w, [], φ⟩ φ13 [] W16 := hS18
  refine OKS.r rfl rfl rfl rfl (fun _ => Runs.notT rfl rfl) ?_
  refine OKS.r rfl rfl rfl rfl (fun _ => Runs.mv rfl rfl) ?_
  by_cases c20 : x10 = true
  · have hm21 := hm12; rw [if_pos c20] at hm21; replace c20 := Hid.mk c20
    refine OKS.r rfl rfl rfl (wantedY rfl rfl (congrArg (fun b => Value.bool (!b)) c20.out)) (fun _ => Runs.mv rfl rfl) ?_
    refine OKS.r rfl rfl rfl (wantedY rfl rfl (congrArg (fun b => Value.bool (!b)) c20.out)) (fun _ => Runs.len rfl rfl Try.runUnderlying24) ?_
    refine OKS.r rfl rfl rfl (wantedY rfl rfl (congrArg (fun b => Value.bool (!b)) c20.out)) (fun _ => Runs.gtr rfl rfl rfl) ?_
    refine OKS.r rfl rfl rfl rfl (fun _ => Runs.pickF rfl (congrArg (fun b => Value.bool (!b)) c20.out) rfl) ?_
    refine OKS.r rfl rfl rfl rfl (fun _ => Runs.as rfl rfl) ?_
    refine OKS.e ?_
    refine thenQ_n ?_
    by_cases c22 : 20 < (↑p1.length : Int)
    · have hm23 := hm21; rw [if_pos c22] at hm23; replace c22 := Hid.mk c22
      refine CK.condT (decT c22.out) ?_
      refine CK.seq ?_
      refine CK.reg (ks := []) (.fl 0 (.nil)) rfl ?_
      refine OKS.r rfl rfl rfl rfl (fun _ => Runs.as rfl rfl) ?_
      refine OKS.e ?_
      refine thenQ_n ?_
      refine CK.ret ?_
      refine blockQ_r ?_
      refine thenQ_r ?_
      cases hm23
      exact ⟨rfl, _, (res1 rfl), φ13, _, hS19, rfl, rfl⟩
    · have hm24 := hm21; rw [if_neg c22] at hm24; replace c22 := Hid.mk c22
      refine CK.condF (decF c22.out) ?_
      refine CK.seq ?_
      refine CK.reg (ks := []) (.fl 0 (.fl 1 (.fx 2 (.fl 3 (.fl 4 (.nil))) .stop))) rfl ?_
      refine OKS.r rfl rfl rfl rfl (fun _ => Runs.mv rfl rfl) ?_
      refine OKS.r rfl rfl rfl rfl (fun _ => Runs.mkf rfl mapnil (mapcons rfl mapnil)) ?_
      have h25 := ha0.le le6
      have h26 := h25.le le17
      have h27 := hC7.le le17
      have hF28 : FnOK Try.prog φ13 (.func (.func 84) #[] #[.pointer (some ⟨b2, 0, none⟩)]) ar151 rr151 (fun x => m_target_CheckSheets_1 x p0) := ⟨84, [], [.pointer (some ⟨b2, 0, none⟩)], rfl, Try.call84, fun φ1 w1 x y vs le hs ha hm => by obtain rfl := ha; exact w_target_CheckSheets_1 x p0 b2 w1 φ1 hs (h27.le le) hm⟩
      obtain ⟨x29, h30, hm31⟩ := bnd hm24
      refine OKS.callH 0 rfl rfl rfl rfl (Enters.mk rfl rfl Try.call83 (mapcons rfl (mapcons rfl mapnil)) rfl) hS19 (fun hs => w_target_all_target_Sheet p1 pA1 pc1 (fun x => m_target_CheckSheets_1 x p0) (.func (.func 84) #[] #[.pointer (some ⟨b2, 0, none⟩)]) W16 φ13 hs h26 hF28 h30) (.inr rfl) ?_
      rintro φ32 L33 v34 W35 le36 hS37 ⟨rfl, rfl⟩
      have hS38 : St ⟨w, [], φ⟩ φ32 [] W35 := hS37
      refine OKS.r rfl rfl rfl rfl (fun _ => Runs.notT rfl rfl) ?_
      refine OKS.r rfl rfl rfl rfl (fun _ => Runs.as rfl rfl) ?_
      refine OKS.e ?_
      refine thenQ_n ?_
      by_cases c39 : x29 = true
      · have hm40 := hm31; rw [if_pos c39] at hm40; replace c39 := Hid.mk c39
        refine CK.condF (congrArg (fun b => Value.bool (!b)) c39.out) ?_
        refine CK.seq ?_
        refine CK.reg (ks := []) (.fl 0 (.fx 1 (.fl 2 (.fl 3 (.nil))) .stop)) rfl ?_
        refine OKS.r rfl rfl rfl rfl (fun _ => Runs.mv rfl rfl) ?_
        have h41 := h26.le le36
        have hF42 : FnOK Try.prog φ32 (.func (.func 85) #[] #[]) ar151 rr151 m_target_CheckSheets_2 := ⟨85, [], [], rfl, Try.call85, fun φ1 w1 x y vs le hs ha hm => by obtain rfl := ha; exact w_target_CheckSheets_2 x w1 φ1 hs  hm⟩
        obtain ⟨x43, h44, hm45⟩ := bnd hm40
        refine OKS.callH 0 rfl rfl rfl rfl (Enters.mk rfl rfl Try.call83 (mapcons rfl (mapcons rfl mapnil)) rfl) hS38 (fun hs => w_target_all_target_Sheet p1 pA1 pc1 m_target_CheckSheets_2 (.func (.func 85) #[] #[]) W35 φ32 hs h41 hF42 h44) (.inr rfl) ?_
        rintro φ46 L47 v48 W49 le50 hS51 ⟨rfl, rfl⟩
        have hS52 : St ⟨w, [], φ⟩ φ46 [] W49 := hS51
        refine OKS.r rfl rfl rfl rfl (fun _ => Runs.notT rfl rfl) ?_
        refine OKS.r rfl rfl rfl rfl (fun _ => Runs.as rfl rfl) ?_
        refine OKS.e ?_
        refine thenQ_n ?_
        by_cases c53 : x43 = true
        · have hm54 := hm45; rw [if_pos c53] at hm54; replace c53 := Hid.mk c53
          refine CK.condF (congrArg (fun b => Value.bool (!b)) c53.out) ?_
          refine CK.skip ?_
          refine blockQ_n ?_
          refine thenQ_n ?_
          refine CK.seq ?_
          refine CK.reg (ks := []) (.fl 0 (.nil)) rfl ?_
          refine OKS.r rfl rfl rfl rfl (fun _ => Runs.as rfl rfl) ?_
          refine OKS.e ?_
          refine thenQ_n ?_
          refine CK.ret ?_
          cases hm54
          exact ⟨rfl, _, (res1 rfl), φ46, _, hS52, rfl, rfl⟩
        · have hm55 := hm45; rw [if_neg c53] at hm55; replace c53 := Hid.mk c53
          refine CK.condT (congrArg (fun b => Value.bool (!b)) (Bool.eq_false_iff.2 c53.out)) ?_
          refine CK.seq ?_
          refine CK.reg (ks := []) (.fl 0 (.nil)) rfl ?_
          refine OKS.r rfl rfl rfl rfl (fun _ => Runs.as rfl rfl) ?_
          refine OKS.e ?_
          refine thenQ_n ?_
          refine CK.ret ?_
          refine blockQ_r ?_
          refine thenQ_r ?_
          cases hm55
          exact ⟨rfl, _, (res1 rfl), φ46, _, hS52, rfl, rfl⟩
      · have hm56 := hm31; rw [if_neg c39] at hm56; replace c39 := Hid.mk c39
        refine CK.condT (congrArg (fun b => Value.bool (!b)) (Bool.eq_false_iff.2 c39.out)) ?_
        refine CK.seq ?_
        refine CK.reg (ks := []) (.fl 0 (.nil)) rfl ?_
        refine OKS.r rfl rfl rfl rfl (fun _ => Runs.as rfl rfl) ?_
        refine OKS.e ?_
        refine thenQ_n ?_
        refine CK.ret ?_
        refine blockQ_r ?_
        refine thenQ_r ?_
        cases hm56
        exact ⟨rfl, _, (res1 rfl), φ32, _, hS38, rfl, rfl⟩
  · have hm57 := hm12; rw [if_neg c20] at hm57; replace c20 := Hid.mk c20
    refine OKS.p rfl rfl rfl (wantedN rfl rfl (congrArg (fun b => Value.bool (!b)) (Bool.eq_false_iff.2 c20.out)) rfl) ?_
    refine OKS.p rfl rfl rfl (wantedN rfl rfl (congrArg (fun b => Value.bool (!b)) (Bool.eq_false_iff.2 c20.out)) rfl) ?_
    refine OKS.p rfl rfl rfl (wantedN rfl rfl (congrArg (fun b => Value.bool (!b)) (Bool.eq_false_iff.2 c20.out)) rfl) ?_
    refine OKS.r rfl rfl rfl rfl (fun _ => Runs.pickT rfl (congrArg (fun b => Value.bool (!b)) (Bool.eq_false_iff.2 c20.out)) rfl) ?_
    refine OKS.r rfl rfl rfl rfl (fun _ => Runs.as rfl rfl) ?_
    refine OKS.e ?_
    refine thenQ_n ?_
    refine CK.condT rfl ?_
    refine CK.seq ?_
    refine CK.reg (ks := []) (.fl 0 (.nil)) rfl ?_
    refine OKS.r rfl rfl rfl rfl (fun _ => Runs.as rfl rfl) ?_
    refine OKS.e ?_
    refine thenQ_n ?_
    refine CK.ret ?_
    refine blockQ_r ?_
    refine thenQ_r ?_
    cases hm57
    exact ⟨rfl, _, (res1 rfl), φ13, _, hS19, rfl, rfl⟩
end Go.Proofs.Ytnllmignponhdaa
