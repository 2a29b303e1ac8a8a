/- Walks, printed by a program: each function does what its model says. -/
import Derived.Test.YtnllmignponhdaaEnc
import Derived.Test.YtnllmignponhdaaW0
import Derived.Test.YtnllmignponhdaaW1
namespace Go.Proofs.Ytnllmignponhdaa
open Go.KL
set_option maxHeartbeats 4000000 in
theorem w_target_counted (p0 : Int) (p1 : List T_target_Sheet) (pA1 : Option Addr) (pc1 : Nat) (w : World) (φ : PHeap) (hS : St ⟨w, [], φ⟩ φ [] w) (ha0 : Sl φ 4 pA1 pc1 p1.length (List.flatMap encT_target_Sheet p1)) {r : (Arr Int 81) × Int} (hm : m_target_counted p0 p1 = some r) : Gv Try.prog 74 [.int .i64 p0, .slice pA1 p1.length pc1] w (RetS w [] φ (fun φ_ L_ v => v = .tuple #[.agg (List.flatMap encI r.1.l).toArray, .int .i64 r.2] ∧ L_ = [])) := by
  unfold m_target_counted at hm
  refine Gv.of Try.func74 rfl Try.ntmps74 Try.results74 rfl ?_
  refine CK.seq ?_
  refine CK.reg (ks := []) (.fx 0 (.fl 1 (.nil)) .stop) rfl ?_
  refine OKS.alloc (cs := List.flatMap encI (Arr.fill 81 0).l) rfl rfl rfl rfl rfl Try.zeroValue136 rfl hS ?_
  intro W1 b2 hS3
  have hS5 : St ⟨w, [], φ⟩ φ [.blk b2 136 (List.flatMap encI (Arr.fill 81 0).l)] W1 := hS3
  refine OKS.r rfl rfl rfl rfl (fun _ => Runs.as rfl rfl) ?_
  refine OKS.e ?_
  refine thenQ_n ?_
  refine CK.seq ?_
  refine CK.seq ?_
  refine CK.reg (ks := []) (.fl 0 (.fl 1 (.fx 2 (.fl 3 (.nil)) .stop))) rfl ?_
  refine OKS.r rfl rfl rfl rfl (fun _ => Runs.mv rfl rfl) ?_
  refine OKS.r rfl rfl rfl rfl (fun _ => Runs.mv rfl rfl) ?_
  obtain ⟨x6, h7, hm8⟩ := bnd hm
  refine OKS.callH 0 rfl rfl rfl rfl (Enters.mk rfl rfl Try.call27 (mapcons rfl (mapcons rfl mapnil)) rfl) hS5 (fun hs => w_target_CheckSheets p0 p1 pA1 pc1 W1 φ hs ha0 h7) (.inr rfl) ?_
  rintro φ9 L10 v11 W12 le13 hS14 ⟨rfl, rfl⟩
  have hS15 : St ⟨w, [], φ⟩ φ9 [.blk b2 136 (List.flatMap encI (Arr.fill 81 0).l)] W12 := hS14
  refine OKS.r rfl rfl rfl rfl (fun _ => Runs.as rfl rfl) ?_
  refine OKS.e ?_
  refine thenQ_n ?_
  refine CK.seq ?_
  refine CK.reg (ks := []) (.fl 0 (.fl 1 (.nil))) rfl ?_
  refine OKS.r rfl rfl rfl rfl (fun _ => Runs.mv rfl rfl) ?_
  refine OKS.r rfl rfl rfl rfl (fun _ => Runs.neq rfl rfl rfl) ?_
  refine OKS.e ?_
  refine thenQ_n ?_
  by_cases c16 : x6 = 0
  · have hm17 := hm8; rw [if_pos c16] at hm17; replace c16 := Hid.mk c16
    refine CK.condF (decF (fun h => h c16.out)) ?_
    refine CK.skip ?_
    refine thenQ_n ?_
    refine CK.seq ?_
    refine CK.reg (ks := []) (.fl 0 (.fl 1 (.fl 2 (.fx 3 (.fx 4 (.fl 5 (.fl 6 (.fl 7 (.fx 8 (.fx 9 (.fl 10 (.nil)) .stop) .stop)))) .stop) .stop)))) rfl ?_
    refine OKS.r rfl rfl rfl rfl (fun _ => Runs.mv rfl rfl) ?_
    refine OKS.r rfl rfl rfl rfl (fun _ => Runs.mv rfl rfl) ?_
    refine OKS.r rfl rfl rfl rfl (fun _ => Runs.mv rfl rfl) ?_
    have h18 := ha0.le le13
    obtain ⟨x19, h20, hm21⟩ := bnd hm17
    refine OKS.callH 0 rfl rfl rfl rfl (Enters.mk rfl rfl Try.call77 (mapcons rfl (mapcons rfl (mapcons rfl mapnil))) rfl) hS15 (fun hs => w_target_links p0 p1 pA1 pc1 [] none 0 W12 φ9 hs h18 (by first | exact Sl.nil _ _ _ _ | exact SlR.nil) h20) (.inr rfl) ?_
    rintro φ22 L23 v24 W25 le26 hS27 ⟨A28, c29, c30, rfl, rfl, h32⟩
    have hS33 : St ⟨w, [], φ⟩ φ22 [.row A28 c29 189 5 c30, .blk b2 136 (List.flatMap encI (Arr.fill 81 0).l)] W25 := hS27
    obtain ⟨φ34, le35, hs36, hS37⟩ := hS33.freezeRR (R := rl189) (k := 0) rfl h32 rfl (by decide)
    have hS38 : St ⟨w, [], φ⟩ φ34 [.blk b2 136 (List.flatMap encI (Arr.fill 81 0).l)] W25 := hS37
    obtain ⟨⟨x39, x40⟩, h41, hm42⟩ := bnd hm21
    try dsimp only at hm42
    refine OKS.callH 0 rfl rfl rfl rfl (Enters.mk rfl rfl Try.call76 (mapcons rfl (mapcons rfl mapnil)) rfl) hS38 (fun hs => w_target_distances p0 x19 A28 c29 W25 φ34 hs hs36 h41) (.inr rfl) ?_
    rintro φ43 L44 v45 W46 le47 hS48 ⟨rfl, rfl⟩
    have hS49 : St ⟨w, [], φ⟩ φ43 [.blk b2 136 (List.flatMap encI (Arr.fill 81 0).l)] W46 := hS48
    refine OKS.r rfl rfl rfl rfl (fun _ => Runs.mv rfl rfl) ?_
    refine OKS.r rfl rfl rfl rfl (fun _ => Runs.ext rfl rfl (v := .agg (List.flatMap encI x39.l).toArray) rfl) ?_
    refine OKS.r rfl rfl rfl rfl (fun _ => Runs.ext rfl rfl (v := .bool x40) rfl) ?_
    refine OKS.alloc (cs := List.flatMap encI (Arr.fill 81 0).l) rfl rfl rfl rfl rfl Try.zeroValue136 rfl hS49 ?_
    intro W50 b51 hS52
    have hS54 : St ⟨w, [], φ⟩ φ43 [.blk b51 136 (List.flatMap encI (Arr.fill 81 0).l), .blk b2 136 (List.flatMap encI (Arr.fill 81 0).l)] W50 := hS52
    refine OKS.st (j := 0) (vs := List.flatMap encI x39.l) rfl rfl rfl rfl hS54 rfl rfl rfl rfl (fun w => by rw [whole_len (f := encI) (sz := 1) (N := 81) x39 (fun _ => rfl) rfl]; exact Try.sizeOf136 w) (by rw [whole_len (f := encI) (sz := 1) (N := 81) x39 (fun _ => rfl) rfl, whole_len (f := encI) (sz := 1) (N := 81) (Arr.fill 81 0) (fun _ => rfl) rfl]; exact Nat.le_of_ble_eq_true rfl) (all_one_flat (fun _ => rfl) _) (setN_all _ _ (by rw [whole_len (f := encI) (sz := 1) (N := 81) x39 (fun _ => rfl) rfl, whole_len (f := encI) (sz := 1) (N := 81) (Arr.fill 81 0) (fun _ => rfl) rfl])) rfl ?_
    intro W55 hS56
    have hS57 : St ⟨w, [], φ⟩ φ43 [.blk b51 136 (List.flatMap encI x39.l), .blk b2 136 (List.flatMap encI (Arr.fill 81 0).l)] W55 := hS56
    refine OKS.r rfl rfl rfl rfl (fun _ => Runs.as rfl rfl) ?_
    refine OKS.e ?_
    refine thenQ_n ?_
    refine CK.seq ?_
    refine CK.seq ?_
    refine CK.reg (ks := []) (.fl 0 (.fl 1 (.nil))) rfl ?_
    refine OKS.r rfl rfl rfl rfl (fun _ => Runs.mv rfl rfl) ?_
    refine OKS.r rfl rfl rfl rfl (fun _ => Runs.notT rfl rfl) ?_
    refine OKS.e ?_
    refine thenQ_n ?_
    by_cases c58 : x40 = true
    · have hm59 := hm42; rw [if_pos c58] at hm59; replace c58 := Hid.mk c58
      refine CK.condF (congrArg (fun b => Value.bool (!b)) c58.out) ?_
      refine CK.skip ?_
      refine thenQ_n ?_
      refine CK.seq ?_
      refine CK.reg (ks := []) (.fl 0 (.fx 1 (.fl 2 (.nil)) .stop)) rfl ?_
      refine OKS.m rfl rfl rfl rfl (hS57.ldBA (j := 0) rfl rfl rfl Try.isAgg136 Try.sizeOf136 (vs := List.flatMap encI x39.l) (whole x39 (fun _ => rfl) rfl) (whole_len x39 (fun _ => rfl) rfl)) rfl ?_
      refine OKS.st (j := 1) (vs := List.flatMap encI x39.l) rfl rfl rfl rfl hS57 rfl rfl rfl rfl (fun w => by rw [whole_len (f := encI) (sz := 1) (N := 81) x39 (fun _ => rfl) rfl]; exact Try.sizeOf136 w) (by rw [whole_len (f := encI) (sz := 1) (N := 81) x39 (fun _ => rfl) rfl, whole_len (f := encI) (sz := 1) (N := 81) (Arr.fill 81 0) (fun _ => rfl) rfl]; exact Nat.le_of_ble_eq_true rfl) (all_one_flat (fun _ => rfl) _) (setN_all _ _ (by rw [whole_len (f := encI) (sz := 1) (N := 81) x39 (fun _ => rfl) rfl, whole_len (f := encI) (sz := 1) (N := 81) (Arr.fill 81 0) (fun _ => rfl) rfl])) rfl ?_
      intro W60 hS61
      have hS62 : St ⟨w, [], φ⟩ φ43 [.blk b51 136 (List.flatMap encI x39.l), .blk b2 136 (List.flatMap encI x39.l)] W60 := hS61
      refine OKS.r rfl rfl rfl rfl (fun _ => Runs.as rfl rfl) ?_
      refine OKS.e ?_
      refine thenQ_n ?_
      refine CK.ret ?_
      cases hm59
      exact ⟨rfl, _, (resLn (rs := [.cell 4 136, .tmp 5]) (vs := [.agg (List.flatMap encI x39.l).toArray, .int .i64 0]) ⟨⟨_, rfl, (ldvarA Try.isAgg136 Try.sizeOf136 (hS62.blkAt (k := 1) rfl) (whole x39 (fun _ => rfl) rfl) (whole_len x39 (fun _ => rfl) rfl))⟩, ⟨rfl, trivial⟩⟩ rfl), φ43, _, (hS62.pick [] _ (by decide) rfl), rfl, rfl⟩
    · have hm63 := hm42; rw [if_neg c58] at hm63; replace c58 := Hid.mk c58
      refine CK.condT (congrArg (fun b => Value.bool (!b)) (Bool.eq_false_iff.2 c58.out)) ?_
      refine CK.seq ?_
      refine CK.reg (ks := []) (.fl 0 (.fx 1 (.fl 2 (.nil)) .stop)) rfl ?_
      refine OKS.m rfl rfl rfl rfl (hS57.ldBA (j := 0) rfl rfl rfl Try.isAgg136 Try.sizeOf136 (vs := List.flatMap encI x39.l) (whole x39 (fun _ => rfl) rfl) (whole_len x39 (fun _ => rfl) rfl)) rfl ?_
      refine OKS.st (j := 1) (vs := List.flatMap encI x39.l) rfl rfl rfl rfl hS57 rfl rfl rfl rfl (fun w => by rw [whole_len (f := encI) (sz := 1) (N := 81) x39 (fun _ => rfl) rfl]; exact Try.sizeOf136 w) (by rw [whole_len (f := encI) (sz := 1) (N := 81) x39 (fun _ => rfl) rfl, whole_len (f := encI) (sz := 1) (N := 81) (Arr.fill 81 0) (fun _ => rfl) rfl]; exact Nat.le_of_ble_eq_true rfl) (all_one_flat (fun _ => rfl) _) (setN_all _ _ (by rw [whole_len (f := encI) (sz := 1) (N := 81) x39 (fun _ => rfl) rfl, whole_len (f := encI) (sz := 1) (N := 81) (Arr.fill 81 0) (fun _ => rfl) rfl])) rfl ?_
      intro W64 hS65
      have hS66 : St ⟨w, [], φ⟩ φ43 [.blk b51 136 (List.flatMap encI x39.l), .blk b2 136 (List.flatMap encI x39.l)] W64 := hS65
      refine OKS.r rfl rfl rfl rfl (fun _ => Runs.as rfl rfl) ?_
      refine OKS.e ?_
      refine thenQ_n ?_
      refine CK.ret ?_
      refine thenQ_r ?_
      cases hm63
      exact ⟨rfl, _, (resLn (rs := [.cell 4 136, .tmp 5]) (vs := [.agg (List.flatMap encI x39.l).toArray, .int .i64 7]) ⟨⟨_, rfl, (ldvarA Try.isAgg136 Try.sizeOf136 (hS66.blkAt (k := 1) rfl) (whole x39 (fun _ => rfl) rfl) (whole_len x39 (fun _ => rfl) rfl))⟩, ⟨rfl, trivial⟩⟩ rfl), φ43, _, (hS66.pick [] _ (by decide) rfl), rfl, rfl⟩
  · have hm67 := hm8; rw [if_neg c16] at hm67; replace c16 := Hid.mk c16
    refine CK.condT (decT c16.out) ?_
    refine CK.seq ?_
    refine CK.reg (ks := []) (.fl 0 (.fl 1 (.fx 2 (.fl 3 (.nil)) .stop))) rfl ?_
    refine OKS.r rfl rfl rfl rfl (fun _ => Runs.to (Runs.buildA (pv := []) (z := [.int .i64 0, .int .i64 0, .int .i64 0, .int .i64 0, .int .i64 0, .int .i64 0, .int .i64 0, .int .i64 0, .int .i64 0, .int .i64 0, .int .i64 0, .int .i64 0, .int .i64 0, .int .i64 0, .int .i64 0, .int .i64 0, .int .i64 0, .int .i64 0, .int .i64 0, .int .i64 0, .int .i64 0, .int .i64 0, .int .i64 0, .int .i64 0, .int .i64 0, .int .i64 0, .int .i64 0, .int .i64 0, .int .i64 0, .int .i64 0, .int .i64 0, .int .i64 0, .int .i64 0, .int .i64 0, .int .i64 0, .int .i64 0, .int .i64 0, .int .i64 0, .int .i64 0, .int .i64 0, .int .i64 0, .int .i64 0, .int .i64 0, .int .i64 0, .int .i64 0, .int .i64 0, .int .i64 0, .int .i64 0, .int .i64 0, .int .i64 0, .int .i64 0, .int .i64 0, .int .i64 0, .int .i64 0, .int .i64 0, .int .i64 0, .int .i64 0, .int .i64 0, .int .i64 0, .int .i64 0, .int .i64 0, .int .i64 0, .int .i64 0, .int .i64 0, .int .i64 0, .int .i64 0, .int .i64 0, .int .i64 0, .int .i64 0, .int .i64 0, .int .i64 0, .int .i64 0, .int .i64 0, .int .i64 0, .int .i64 0, .int .i64 0, .int .i64 0, .int .i64 0, .int .i64 0, .int .i64 0, .int .i64 0]) (cs := [.int .i64 0, .int .i64 0, .int .i64 0, .int .i64 0, .int .i64 0, .int .i64 0, .int .i64 0, .int .i64 0, .int .i64 0, .int .i64 0, .int .i64 0, .int .i64 0, .int .i64 0, .int .i64 0, .int .i64 0, .int .i64 0, .int .i64 0, .int .i64 0, .int .i64 0, .int .i64 0, .int .i64 0, .int .i64 0, .int .i64 0, .int .i64 0, .int .i64 0, .int .i64 0, .int .i64 0, .int .i64 0, .int .i64 0, .int .i64 0, .int .i64 0, .int .i64 0, .int .i64 0, .int .i64 0, .int .i64 0, .int .i64 0, .int .i64 0, .int .i64 0, .int .i64 0, .int .i64 0, .int .i64 0, .int .i64 0, .int .i64 0, .int .i64 0, .int .i64 0, .int .i64 0, .int .i64 0, .int .i64 0, .int .i64 0, .int .i64 0, .int .i64 0, .int .i64 0, .int .i64 0, .int .i64 0, .int .i64 0, .int .i64 0, .int .i64 0, .int .i64 0, .int .i64 0, .int .i64 0, .int .i64 0, .int .i64 0, .int .i64 0, .int .i64 0, .int .i64 0, .int .i64 0, .int .i64 0, .int .i64 0, .int .i64 0, .int .i64 0, .int .i64 0, .int .i64 0, .int .i64 0, .int .i64 0, .int .i64 0, .int .i64 0, .int .i64 0, .int .i64 0, .int .i64 0, .int .i64 0, .int .i64 0]) rfl mapnil2 Try.zeroValue136 Try.runUnderlying136 Try.sizeOf135 rfl rfl) (congrArg (fun l : List Value => Value.agg l.toArray) (show _ = List.flatMap encI (Arr.fill 81 0).l from rfl))) ?_
    refine OKS.r rfl rfl rfl rfl (fun _ => Runs.mv rfl rfl) ?_
    refine OKS.st (j := 0) (vs := List.flatMap encI (Arr.fill 81 0).l) rfl rfl rfl rfl hS15 rfl rfl rfl rfl (fun w => by rw [whole_len (f := encI) (sz := 1) (N := 81) (Arr.fill 81 0) (fun _ => rfl) rfl]; exact Try.sizeOf136 w) (by rw [whole_len (f := encI) (sz := 1) (N := 81) (Arr.fill 81 0) (fun _ => rfl) rfl]; exact Nat.le_of_ble_eq_true rfl) (all_one_flat (fun _ => rfl) _) (setN_all _ _ (by rw [whole_len (f := encI) (sz := 1) (N := 81) (Arr.fill 81 0) (fun _ => rfl) rfl])) rfl ?_
    intro W68 hS69
    have hS70 : St ⟨w, [], φ⟩ φ9 [.blk b2 136 (List.flatMap encI (Arr.fill 81 0).l)] W68 := hS69
    refine OKS.r rfl rfl rfl rfl (fun _ => Runs.as rfl rfl) ?_
    refine OKS.e ?_
    refine thenQ_n ?_
    refine CK.ret ?_
    refine thenQ_r ?_
    cases hm67
    exact ⟨rfl, _, (resLn (rs := [.cell 4 136, .tmp 5]) (vs := [.agg (List.flatMap encI (Arr.fill 81 0).l).toArray, .int .i64 x6]) ⟨⟨_, rfl, (ldvarA Try.isAgg136 Try.sizeOf136 (hS70.blkAt (k := 0) rfl) (whole (Arr.fill 81 0) (fun _ => rfl) rfl) (whole_len (Arr.fill 81 0) (fun _ => rfl) rfl))⟩, ⟨rfl, trivial⟩⟩ rfl), φ9, _, (hS70.pick [] _ (by decide) rfl), rfl, rfl⟩

set_option maxHeartbeats 4000000 in
theorem w_target_Skied (p0 : Int) (p1 : List T_target_Sheet) (pA1 : Option Addr) (pc1 : Nat) (w : World) (φ : PHeap) (hS : St ⟨w, [], φ⟩ φ [] w) (ha0 : Sl φ 4 pA1 pc1 p1.length (List.flatMap encT_target_Sheet p1)) {r : (List T_api_Span) × Int} (hm : m_target_Skied p0 p1 = some r) : Gv Try.prog 21 [.int .i64 p0, .slice pA1 p1.length pc1] w (RetS w [] φ (fun φ_ L_ v => ∃ (A0 : Option Addr) (c0 : Nat), v = .tuple #[.slice A0 r.1.length c0, .int .i64 r.2] ∧ L_ = [.row A0 c0 31 2 (List.flatMap encT_api_Span r.1)])) := by
  unfold m_target_Skied at hm
  refine Gv.of Try.func21 rfl Try.ntmps21 Try.results21 rfl ?_
  refine CK.seq ?_
  refine CK.reg (ks := []) (.fl 0 (.fl 1 (.nil))) rfl ?_
  refine OKS.r rfl rfl rfl rfl (fun _ => Runs.as rfl rfl) ?_
  refine OKS.r rfl rfl rfl rfl (fun _ => Runs.as rfl rfl) ?_
  refine OKS.e ?_
  refine thenQ_n ?_
  refine CK.seq ?_
  refine CK.reg (ks := []) (.fl 0 (.fl 1 (.fx 2 (.fl 3 (.fl 4 (.fl 5 (.fx 6 (.fx 7 (.fl 8 (.nil)) .stop) .stop)))) .stop))) rfl ?_
  refine OKS.r rfl rfl rfl rfl (fun _ => Runs.mv rfl rfl) ?_
  refine OKS.r rfl rfl rfl rfl (fun _ => Runs.mv rfl rfl) ?_
  obtain ⟨⟨x1, x2⟩, h3, hm4⟩ := bnd hm
  try dsimp only at hm4
  refine OKS.callH 0 rfl rfl rfl rfl (Enters.mk rfl rfl Try.call74 (mapcons rfl (mapcons rfl mapnil)) rfl) hS (fun hs => w_target_counted p0 p1 pA1 pc1 w φ hs ha0 h3) (.inr rfl) ?_
  rintro φ5 L6 v7 W8 le9 hS10 ⟨rfl, rfl⟩
  have hS11 : St ⟨w, [], φ⟩ φ5 [] W8 := hS10
  refine OKS.r rfl rfl rfl rfl (fun _ => Runs.mv rfl rfl) ?_
  refine OKS.r rfl rfl rfl rfl (fun _ => Runs.ext rfl rfl (v := .agg (List.flatMap encI x1.l).toArray) rfl) ?_
  refine OKS.r rfl rfl rfl rfl (fun _ => Runs.ext rfl rfl (v := .int .i64 x2) rfl) ?_
  refine OKS.alloc (cs := List.flatMap encI (Arr.fill 81 0).l) rfl rfl rfl rfl rfl Try.zeroValue136 rfl hS11 ?_
  intro W12 b13 hS14
  have hS16 : St ⟨w, [], φ⟩ φ5 [.blk b13 136 (List.flatMap encI (Arr.fill 81 0).l)] W12 := hS14
  refine OKS.st (j := 0) (vs := List.flatMap encI x1.l) rfl rfl rfl rfl hS16 rfl rfl rfl rfl (fun w => by rw [whole_len (f := encI) (sz := 1) (N := 81) x1 (fun _ => rfl) rfl]; exact Try.sizeOf136 w) (by rw [whole_len (f := encI) (sz := 1) (N := 81) x1 (fun _ => rfl) rfl, whole_len (f := encI) (sz := 1) (N := 81) (Arr.fill 81 0) (fun _ => rfl) rfl]; exact Nat.le_of_ble_eq_true rfl) (all_one_flat (fun _ => rfl) _) (setN_all _ _ (by rw [whole_len (f := encI) (sz := 1) (N := 81) x1 (fun _ => rfl) rfl, whole_len (f := encI) (sz := 1) (N := 81) (Arr.fill 81 0) (fun _ => rfl) rfl])) rfl ?_
  intro W17 hS18
  have hS19 : St ⟨w, [], φ⟩ φ5 [.blk b13 136 (List.flatMap encI x1.l)] W17 := hS18
  refine OKS.r rfl rfl rfl rfl (fun _ => Runs.as rfl rfl) ?_
  refine OKS.e ?_
  refine thenQ_n ?_
  refine CK.seq ?_
  refine CK.seq ?_
  refine CK.reg (ks := []) (.fl 0 (.fl 1 (.nil))) rfl ?_
  refine OKS.r rfl rfl rfl rfl (fun _ => Runs.mv rfl rfl) ?_
  refine OKS.r rfl rfl rfl rfl (fun _ => Runs.neq rfl rfl rfl) ?_
  refine OKS.e ?_
  refine thenQ_n ?_
  by_cases c20 : x2 = 0
  · have hm21 := hm4; rw [if_pos c20] at hm21; replace c20 := Hid.mk c20
    refine CK.condF (decF (fun h => h c20.out)) ?_
    refine CK.skip ?_
    refine thenQ_n ?_
    refine CK.seq ?_
    refine CK.reg (ks := []) (.fl 0 (.nil)) rfl ?_
    refine OKS.r rfl rfl rfl rfl (fun _ => Runs.as rfl rfl) ?_
    refine OKS.e ?_
    refine thenQ_n ?_
    refine CK.seq ?_
    refine CK.seq ?_
    refine CK.reg (ks := []) (.fl 0 (.fl 1 (.nil))) rfl ?_
    refine OKS.r rfl rfl rfl rfl (fun _ => Runs.mv rfl rfl) ?_
    refine OKS.r rfl rfl rfl rfl (fun _ => Runs.mv rfl rfl) ?_
    refine OKS.e ?_
    refine thenQ_n ?_
    refine CK.block ?_
    obtain ⟨y44, hf41, hm40⟩ := bnd hm21
    obtain ⟨hle42, hf43⟩ := forR'_le hf41
    replace hle42 := Hid.mk hle42
    refine CK.forN' (fun k39 l35 σ_ w_ => ∃ (φ_ : PHeap) (A36 : Option Addr) (c37 : Nat), σ_ 20 = .int .i64 (↑k39 : Int) ∧ σ_ 6 = .pointer (some ⟨b13, 0, none⟩) ∧ σ_ 8 = .slice A36 l35.length c37 ∧ σ_ 19 = .int .i64 p0 ∧ PHeap.Le φ5 φ_ ∧ St ⟨w, [], φ⟩ φ_ [.blk b13 136 (List.flatMap encI x1.l), .row A36 c37 31 2 (List.flatMap encT_api_Span l35)] w_) hf43 ?_ ?_ ?_
    · have hS45 := hS19.nilrow 31 2
      exact ⟨φ5, none, 0, rfl, rfl, rfl, rfl, (PHeap.Le.refl _), (hS45.pick [1, 0] _ (by decide) rfl)⟩
    · rintro k39 l35 xx49 σ47 W48 hk52 ⟨φ54, A36, c37, fi53, f57, f58, f59, le55, hS56⟩ hx50
      have c60 : Hid ((↑k39 : Int) < p0) := Hid.mk (lp_lt0 hk52)
      replace hk52 := Hid.mk hk52
      have hi61 : Hid (w64 ((↑k39 : Int) + 1) = (↑(k39 + 1) : Int)) := Hid.mk (by have h1 := hle42.out; have h2 := c60.out; rw [w64_in] <;> omega)
      refine CK.seq ?_
      refine CK.reg (ks := []) (.fl 0 (.nil)) rfl ?_
      refine OKS.r rfl rfl rfl rfl (fun _ => Runs.lss rfl fi53 f59) ?_
      refine OKS.e ?_
      refine thenQ_n ?_
      refine CK.seq ?_
      refine CK.condT (decT c60.out) ?_
      refine CK.skip ?_
      refine thenQ_n ?_
      refine CK.seq ?_
      refine CK.block ?_
      refine CK.seq ?_
      refine CK.reg (ks := []) (.fl 0 (.fl 1 (.nil))) rfl ?_
      refine OKS.r rfl rfl rfl rfl (fun _ => Runs.mv rfl fi53) ?_
      refine OKS.r rfl rfl rfl rfl (fun _ => Runs.as rfl rfl) ?_
      refine OKS.e ?_
      refine thenQ_n ?_
      refine CK.anyOrd Try.mixed [3, 3, 3, 3, 3, 3, 1, 3, 3, 3, 3, 3, 3, 1, 3, 2, 0, 3] (.fl 0 (.fl 1 (.fl 2 (.fl 3 (.fl 4 (.fl 5 (.fl 6 (.fl 7 (.fl 8 (.fl 9 (.fl 10 (.fl 11 (.fl 12 (.fl 13 (.fl 14 (.fx 15 (.fx 16 (.fl 17 (.nil)) .stop) .stop)))))))))))))))) (by kernel_rfl) ?_
      have hS62 := hS56.drew
      generalize hw_W63 : ({ W48 with drawn := W48.drawn + 1 } : World) = W63 at hS62 ⊢
      refine OKS.r rfl rfl rfl rfl (fun _ => Runs.mv rfl f58) ?_
      refine OKS.r rfl rfl rfl rfl (fun _ => Runs.mv rfl rfl) ?_
      refine OKS.r rfl rfl rfl rfl (fun _ => Runs.to (Runs.addw rfl rfl rfl) (congrArg (Value.int .i64) hi61.out)) ?_
      refine OKS.r rfl rfl rfl rfl (fun _ => Runs.mv rfl rfl) ?_
      obtain ⟨_, h64, hm65⟩ := bnd hx50
      refine OKS.r rfl rfl rfl rfl (fun _ => Runs.iaA rfl f57 rfl Try.runUnderlying136 Try.sizeOf135 (chk_lo h64) (chk_hi h64)) ?_
      obtain ⟨_, h66, hm67⟩ := bnd hm65
      refine OKS.r rfl rfl rfl rfl (fun _ => Runs.iaA rfl rfl rfl Try.runUnderlying135 Try.sizeOf3 (chk_lo h66) (chk_hi h66)) ?_
      have hg68 := Arr.at_ x1 (k := ((k39 + 1) * 9 + k39)) (by have hz0 := chk_lt h64; have hz1 := chk_lt h66; omega)
      refine OKS.m rfl rfl rfl rfl (hS62.ldB (j := 0) rfl rfl rfl Try.isAgg3 (flatMap_cell (sz := 1) (fun _ => rfl) _ _ 0 _ hg68 (by omega) rfl)) rfl ?_
      refine OKS.r rfl rfl rfl rfl (fun _ => Runs.negw rfl rfl) ?_
      refine OKS.r rfl rfl rfl rfl (fun _ => Runs.mv rfl rfl) ?_
      refine OKS.r rfl rfl rfl rfl (fun _ => Runs.mv rfl rfl) ?_
      refine OKS.r rfl rfl rfl rfl (fun _ => Runs.to (Runs.addw rfl rfl rfl) (congrArg (Value.int .i64) hi61.out)) ?_
      refine OKS.r rfl rfl rfl rfl (fun _ => Runs.iaA rfl f57 rfl Try.runUnderlying136 Try.sizeOf135 (chk_lo h66) (chk_hi h66)) ?_
      refine OKS.r rfl rfl rfl rfl (fun _ => Runs.iaA rfl rfl rfl Try.runUnderlying135 Try.sizeOf3 (chk_lo h64) (chk_hi h64)) ?_
      have hg69 := Arr.at_ x1 (k := (k39 * 9 + (k39 + 1))) (by have hz0 := chk_lt h66; have hz1 := chk_lt h64; omega)
      refine OKS.m rfl rfl rfl rfl (hS62.ldB (j := 0) rfl rfl rfl Try.isAgg3 (flatMap_cell (sz := 1) (fun _ => rfl) _ _ 0 _ hg69 (by omega) rfl)) rfl ?_
      refine OKS.r rfl rfl rfl rfl (fun _ => Runs.build (pv := [(0, .int .i64 (w64 (-(x1.get ((k39 + 1) * 9 + k39))))), (1, .int .i64 (x1.get (k39 * 9 + (k39 + 1))))]) (z := [.int .i64 0, .int .i64 0]) (cs := [.int .i64 (w64 (-(x1.get ((k39 + 1) * 9 + k39)))), .int .i64 (x1.get (k39 * 9 + (k39 + 1)))]) rfl (mapcons2 rfl (mapcons2 rfl mapnil2)) Try.zeroValue31 places31 rfl rfl) ?_
      refine OKS.buildSlice (pv := [(0, .agg #[.int .i64 (w64 (-(x1.get ((k39 + 1) * 9 + k39)))), .int .i64 (x1.get (k39 * 9 + (k39 + 1)))])]) (zs := [.int .i64 0, .int .i64 0]) (cs := [.int .i64 (w64 (-(x1.get ((k39 + 1) * 9 + k39)))), .int .i64 (x1.get (k39 * 9 + (k39 + 1)))]) rfl rfl rfl rfl rfl (mapcons2 rfl mapnil2) Try.runUnderlying38 Try.sizeOf31 Try.zeroValue31 rfl rfl rfl rfl rfl hS62 ?_
      intro W70 b71 hS72
      have hS74 : St ⟨w, [], φ⟩ φ54 [.row (some ⟨b71, 0, none⟩) 1 31 2 (List.flatMap encT_api_Span [(⟨w64 (-(x1.get ((k39 + 1) * 9 + k39))), (x1.get (k39 * 9 + (k39 + 1)))⟩ : T_api_Span)]), .blk b13 136 (List.flatMap encI x1.l), .row A36 c37 31 2 (List.flatMap encT_api_Span l35)] W70 := hS72
      obtain ⟨x75, h76, hm77⟩ := bnd hm67
      refine OKS.append (j := 2) (enc := encT_api_Span) (xs := l35) (ys := [(⟨w64 (-(x1.get ((k39 + 1) * 9 + k39))), (x1.get (k39 * 9 + (k39 + 1)))⟩ : T_api_Span)]) (zs := x75) rfl rfl rfl rfl rfl Try.underlying38 info31 rfl rfl rfl rfl rfl rfl hS74 rfl rfl rfl (hS74.srcR (j := 0) rfl (by decide) (flatMap_len (f := encT_api_Span) (sz := 2) (fun _ => rfl) [(⟨w64 (-(x1.get ((k39 + 1) * 9 + k39))), (x1.get (k39 * 9 + (k39 + 1)))⟩ : T_api_Span)])) (fun _ => rfl) (fun _ => rfl) h76 rfl ?_
      intro A78 c79 W80 hS81
      have hS82 : St ⟨w, [], φ⟩ φ54 [.row (some ⟨b71, 0, none⟩) 1 31 2 (List.flatMap encT_api_Span [(⟨w64 (-(x1.get ((k39 + 1) * 9 + k39))), (x1.get (k39 * 9 + (k39 + 1)))⟩ : T_api_Span)]), .blk b13 136 (List.flatMap encI x1.l), .row A78 c79 31 2 (List.flatMap encT_api_Span x75)] W80 := hS81
      refine OKS.r rfl rfl rfl rfl (fun _ => Runs.as rfl rfl) ?_
      refine OKS.e ?_
      refine blockQ_n ?_
      refine thenQ_n ?_
      refine CK.reg (ks := []) (.fl 0 (.fl 1 (.nil))) rfl ?_
      refine OKS.r rfl rfl rfl rfl (fun _ => Runs.to (Runs.addw rfl fi53 rfl) (congrArg (Value.int .i64) hi61.out)) ?_
      refine OKS.r rfl rfl rfl rfl (fun _ => Runs.mv rfl rfl) ?_
      refine OKS.e ?_
      cases hm77
      exact thenQ_n ⟨rfl, ⟨φ54, A78, c79, rfl, f57, rfl, f59, le55, (hS82.pick [1, 2] _ (by decide) rfl)⟩⟩
    · rintro σ86 W87 ⟨φ95, A93, c94, fi89, f98, f99, f100, le96, hS97⟩
      have c101 : Hid (¬ ((↑((p0 : Int) - 0).toNat : Int) < p0)) := Hid.mk (lp_end0)
      refine CK.seq ?_
      refine CK.reg (ks := []) (.fl 0 (.nil)) rfl ?_
      refine OKS.r rfl rfl rfl rfl (fun _ => Runs.lss rfl fi89 f100) ?_
      refine OKS.e ?_
      refine thenQ_n ?_
      refine CK.seq ?_
      refine CK.condF (decF c101.out) ?_
      refine CK.exit ?_
      refine thenQ_e ?_
      refine thenQ_e ?_
      refine blockQ_h ?_
      refine thenQ_n ?_
      refine CK.seq ?_
      refine CK.reg (ks := []) (.fl 0 (.fl 1 (.fl 2 (.nil)))) rfl ?_
      refine OKS.r rfl rfl rfl rfl (fun _ => Runs.mv rfl f99) ?_
      refine OKS.r rfl rfl rfl rfl (fun _ => Runs.as rfl rfl) ?_
      refine OKS.r rfl rfl rfl rfl (fun _ => Runs.as rfl rfl) ?_
      refine OKS.e ?_
      refine thenQ_n ?_
      refine CK.ret ?_
      cases hm40
      exact ⟨rfl, _, (res2 rfl rfl), φ95, _, (hS97.pick [1] _ (by decide) rfl), A93, c94, rfl, rfl⟩
  · have hm102 := hm4; rw [if_neg c20] at hm102; replace c20 := Hid.mk c20
    refine CK.condT (decT c20.out) ?_
    refine CK.seq ?_
    refine CK.reg (ks := []) (.fl 0 (.fl 1 (.fl 2 (.nil)))) rfl ?_
    refine OKS.r rfl rfl rfl rfl (fun _ => Runs.mv rfl rfl) ?_
    refine OKS.r rfl rfl rfl rfl (fun _ => Runs.as rfl rfl) ?_
    refine OKS.r rfl rfl rfl rfl (fun _ => Runs.as rfl rfl) ?_
    refine OKS.e ?_
    refine thenQ_n ?_
    refine CK.ret ?_
    refine thenQ_r ?_
    have hS103 := hS19.nilrow 31 2
    cases hm102
    exact ⟨rfl, _, (res2 rfl rfl), φ5, _, (hS103.pick [0] _ (by decide) rfl), none, 0, rfl, rfl⟩

set_option maxHeartbeats 4000000 in
theorem w_klisterlaw03_has (p0 : T_api_Span) (p1 : Int) (w : World) (φ : PHeap) (hS : St ⟨w, [], φ⟩ φ [] w)  {r : Bool} (hm : m_klisterlaw03_has p0 p1 = some r) : Gv Try.prog 43 [.agg #[.int .i64 p0.Lo, .int .i64 p0.Hi], .int .i64 p1] w (RetS w [] φ (fun φ_ L_ v => v = .bool r ∧ L_ = [])) := by
  unfold m_klisterlaw03_has at hm
  refine Gv.of Try.func43 rfl Try.ntmps43 Try.results43 rfl ?_
  refine CK.seq ?_
  refine CK.reg (ks := []) (.fx 0 (.fl 1 (.nil)) .stop) rfl ?_
  refine OKS.box (cs := [.int .i64 p0.Lo, .int .i64 p0.Hi]) rfl rfl rfl rfl rfl rfl (by rfl) hS ?_
  intro W1 b2 hS3
  refine OKS.r rfl rfl rfl rfl (fun _ => Runs.as rfl rfl) ?_
  refine OKS.e ?_
  refine thenQ_n ?_
  refine CK.seq ?_
  refine CK.reg (ks := []) (.fl 0 (.fl 1 (.fl 2 (.fl 3 (.fl 4 (.fl 5 (.fl 6 (.fl 7 (.fl 8 (.fl 9 (.fl 10 (.nil)))))))))))) rfl ?_
  refine OKS.r rfl rfl rfl rfl (fun _ => Runs.fa rfl rfl Try.runUnderlying31 rfl Try.sizeOf3) ?_
  refine OKS.m rfl rfl rfl rfl (hS3.ldB (j := 0) rfl rfl rfl Try.isAgg3 (v := .int .i64 p0.Lo) rfl) rfl ?_
  refine OKS.r rfl rfl rfl rfl (fun _ => Runs.mv rfl rfl) ?_
  refine OKS.r rfl rfl rfl rfl (fun _ => Runs.leq rfl rfl rfl) ?_
  refine OKS.r rfl rfl rfl rfl (fun _ => Runs.mv rfl rfl) ?_
  by_cases c5 : p0.Lo ≤ p1
  · have hm6 := hm; rw [if_pos c5] at hm6; replace c5 := Hid.mk c5
    refine OKS.r rfl rfl rfl (wantedY rfl rfl (decT c5.out)) (fun _ => Runs.mv rfl rfl) ?_
    refine OKS.r rfl rfl rfl (wantedY rfl rfl (decT c5.out)) (fun _ => Runs.fa rfl rfl Try.runUnderlying31 rfl Try.sizeOf3) ?_
    refine OKS.m rfl rfl rfl (wantedY rfl rfl (decT c5.out)) (hS3.ldB (j := 0) rfl rfl rfl Try.isAgg3 (v := .int .i64 p0.Hi) rfl) rfl ?_
    refine OKS.r rfl rfl rfl (wantedY rfl rfl (decT c5.out)) (fun _ => Runs.leq rfl rfl rfl) ?_
    refine OKS.r rfl rfl rfl rfl (fun _ => Runs.pickT rfl (decT c5.out) rfl) ?_
    refine OKS.r rfl rfl rfl rfl (fun _ => Runs.as rfl rfl) ?_
    refine OKS.e ?_
    refine thenQ_n ?_
    refine CK.ret ?_
    cases hm6
    exact ⟨rfl, _, (res1 rfl), φ, _, (hS3.pick [] _ (by decide) rfl), rfl, rfl⟩
  · have hm7 := hm; rw [if_neg c5] at hm7; replace c5 := Hid.mk c5
    refine OKS.p rfl rfl rfl (wantedN rfl rfl (decF c5.out) rfl) ?_
    refine OKS.p rfl rfl rfl (wantedN rfl rfl (decF c5.out) rfl) ?_
    refine OKS.p rfl rfl rfl (wantedN rfl rfl (decF c5.out) rfl) ?_
    refine OKS.p rfl rfl rfl (wantedN rfl rfl (decF c5.out) rfl) ?_
    refine OKS.r rfl rfl rfl rfl (fun _ => Runs.pickF rfl (decF c5.out) rfl) ?_
    refine OKS.r rfl rfl rfl rfl (fun _ => Runs.as rfl rfl) ?_
    refine OKS.e ?_
    refine thenQ_n ?_
    refine CK.ret ?_
    cases hm7
    exact ⟨rfl, _, (res1 rfl), φ, _, (hS3.pick [] _ (by decide) rfl), rfl, rfl⟩

set_option maxHeartbeats 4000000 in
theorem w_target_all_int_1 (p0 : Int) (p1 : (Int → Option Bool)) (pb1 : Nat) (pv1 : Value) (w : World) (φ : PHeap) (hS : St ⟨w, [], φ⟩ φ [] w) (ha0 : Cl φ pb1 0 [pv1]) (ha1 : FnOK Try.prog φ pv1 ar108 rr108 p1) {r : Bool} (hm : m_target_all_int_1 p0 p1 = some r) : Gv Try.prog 144 [.int .i64 p0, .pointer (some ⟨pb1, 0, none⟩)] w (RetS w [] φ (fun φ_ L_ v => v = .bool r ∧ L_ = [])) := by
  unfold m_target_all_int_1 at hm
  refine Gv.of Try.func144 rfl Try.ntmps144 Try.results144 rfl ?_
  refine CK.seq ?_
  refine CK.reg (ks := []) (.fl 0 (.nil)) rfl ?_
  refine OKS.r rfl rfl rfl rfl (fun _ => Runs.as rfl rfl) ?_
  refine OKS.e ?_
  refine thenQ_n ?_
  refine CK.seq ?_
  refine CK.reg (ks := []) (.fl 0 (.fl 1 (.fx 2 (.fl 3 (.fl 4 (.nil))) .stop))) rfl ?_
  refine OKS.m rfl rfl rfl rfl (hS.ldC (f := 0) ha0 (v := pv1) rfl rfl Try.isAgg108 rfl) rfl ?_
  refine OKS.r rfl rfl rfl rfl (fun _ => Runs.mv rfl rfl) ?_
  obtain ⟨x1, h2, hm3⟩ := bnd hm
  refine OKS.callV (a := p0) rfl rfl rfl rfl rfl rfl (mapcons rfl mapnil) hS ha1 rfl h2 ?_
  rintro φ4 L5 v6 W7 le8 hS9 ⟨rfl, rfl⟩
  have hS10 : St ⟨w, [], φ⟩ φ4 [] W7 := hS9
  refine OKS.r rfl rfl rfl rfl (fun _ => Runs.notT rfl rfl) ?_
  refine OKS.r rfl rfl rfl rfl (fun _ => Runs.as rfl rfl) ?_
  refine OKS.e ?_
  refine thenQ_n ?_
  refine CK.ret ?_
  cases hm3
  exact ⟨rfl, _, (res1 rfl), φ4, _, hS10, rfl, rfl⟩

set_option maxHeartbeats 4000000 in
theorem w_slices_IndexFunc_int_int (p0 : List Int) (pA0 : Option Addr) (pc0 : Nat) (p1 : (Int → Option Bool)) (pv1 : Value) (w : World) (φ : PHeap) (hS : St ⟨w, [], φ⟩ φ [] w) (ha0 : Sl φ 1 pA0 pc0 p0.length (List.flatMap encI p0)) (ha1 : FnOK Try.prog φ pv1 ar108 rr108 p1) {r : Int} (hm : m_slices_IndexFunc_int_int p0 p1 = some r) : Gv Try.prog 138 [.slice pA0 p0.length pc0, pv1] w (RetS w [] φ (fun φ_ L_ v => v = .int .i64 r ∧ L_ = [])) := by
  unfold m_slices_IndexFunc_int_int at hm
  refine Gv.of Try.func138 rfl Try.ntmps138 Try.results138 rfl ?_
  refine CK.seq ?_
  refine CK.reg (ks := []) (.fl 0 (.nil)) rfl ?_
  refine OKS.r rfl rfl rfl rfl (fun _ => Runs.as rfl rfl) ?_
  refine OKS.e ?_
  refine thenQ_n ?_
  refine CK.seq ?_
  refine CK.seq ?_
  refine CK.reg (ks := []) (.fl 0 (.fl 1 (.fl 2 (.nil)))) rfl ?_
  refine OKS.r rfl rfl rfl rfl (fun _ => Runs.mv rfl rfl) ?_
  refine OKS.r rfl rfl rfl rfl (fun _ => Runs.len rfl rfl Try.runUnderlying23) ?_
  refine OKS.r rfl rfl rfl rfl (fun _ => Runs.mv rfl rfl) ?_
  refine OKS.e ?_
  refine thenQ_n ?_
  refine CK.block ?_
  obtain ⟨r3, hX4⟩ := jn_some hm
  obtain ⟨hle5, hf6⟩ := forR_le hX4
  replace hle5 := Hid.mk hle5
  refine CK.forN (fun k2 _ σ_ w_ => ∃ (φ_ : PHeap), σ_ 8 = .int .i64 (↑k2 : Int) ∧ σ_ 0 = .slice pA0 p0.length pc0 ∧ σ_ 1 = pv1 ∧ σ_ 7 = .int .i64 (↑p0.length : Int) ∧ PHeap.Le φ φ_ ∧ St ⟨w, [], φ⟩ φ_ [] w_) hf6 ?_ ?_ ?_
  · exact ⟨φ, rfl, rfl, rfl, rfl, (PHeap.Le.refl _), hS⟩
  · rintro k2 ⟨⟩ xx9 σ7 W8 hk12 ⟨φ14, fi13, f17, f18, f19, le15, hS16⟩ hx10 hb11
    try dsimp only at hx10
    have c20 : Hid ((↑k2 : Int) < (↑p0.length : Int)) := Hid.mk (lp_lt0 hk12)
    replace hk12 := Hid.mk hk12
    have hi21 : Hid (w64 ((↑k2 : Int) + 1) = (↑(k2 + 1) : Int)) := Hid.mk (by have h1 := hle5.out; have h2 := c20.out; rw [w64_in] <;> omega)
    refine CK.seq ?_
    refine CK.reg (ks := []) (.fl 0 (.nil)) rfl ?_
    refine OKS.r rfl rfl rfl rfl (fun _ => Runs.lss rfl fi13 f19) ?_
    refine OKS.e ?_
    refine thenQ_n ?_
    refine CK.seq ?_
    refine CK.condT (decT c20.out) ?_
    refine CK.skip ?_
    refine thenQ_n ?_
    refine CK.seq ?_
    refine CK.block ?_
    refine CK.seq ?_
    refine CK.reg (ks := []) (.fl 0 (.fl 1 (.nil))) rfl ?_
    refine OKS.r rfl rfl rfl rfl (fun _ => Runs.mv rfl fi13) ?_
    refine OKS.r rfl rfl rfl rfl (fun _ => Runs.as rfl rfl) ?_
    refine OKS.e ?_
    refine thenQ_n ?_
    refine CK.seq ?_
    refine CK.reg (ks := []) (.fl 0 (.fl 1 (.fl 2 (.fl 3 (.fl 4 (.fx 5 (.nil) .stop)))))) rfl ?_
    refine OKS.r rfl rfl rfl rfl (fun _ => Runs.mv rfl f18) ?_
    refine OKS.r rfl rfl rfl rfl (fun _ => Runs.mv rfl f17) ?_
    refine OKS.r rfl rfl rfl rfl (fun _ => Runs.mv rfl rfl) ?_
    obtain ⟨x22, h23, hm24⟩ := bnd hx10
    have h25 := ha0.le le15
    obtain ⟨b26, off27, hA28, hC29⟩ := h25.el (fun _ => rfl) (idx_get h23)
    refine OKS.r rfl rfl rfl rfl (fun _ => Runs.iaN rfl rfl hA28 rfl Try.runUnderlying23 Try.sizeOf3 (idx_lt h23)) ?_
    refine OKS.m rfl rfl rfl rfl (hS16.ldC (f := 0) hC29 (v := .int .i64 x22) rfl rfl Try.isAgg3 rfl) rfl ?_
    obtain ⟨x30, h31, hm32⟩ := bnd hm24
    have h39 := ha1.le le15
    refine OKS.callV (a := x22) rfl rfl rfl rfl rfl rfl (mapcons rfl mapnil) hS16 h39 rfl h31 ?_
    rintro φ33 L34 v35 W36 le37 hS38 ⟨rfl, rfl⟩
    have hS40 : St ⟨w, [], φ⟩ φ33 [] W36 := hS38
    refine OKS.e ?_
    refine thenQ_n ?_
    by_cases c41 : x30 = true
    · have hm42 := hm32; rw [if_pos c41] at hm42; replace c41 := Hid.mk c41
      refine CK.condT (congrArg Value.bool c41.out) ?_
      refine CK.seq ?_
      refine CK.reg (ks := []) (.fl 0 (.fl 1 (.nil))) rfl ?_
      refine OKS.r rfl rfl rfl rfl (fun _ => Runs.mv rfl rfl) ?_
      refine OKS.r rfl rfl rfl rfl (fun _ => Runs.as rfl rfl) ?_
      refine OKS.e ?_
      refine thenQ_n ?_
      refine CK.ret ?_
      refine blockQ_r ?_
      refine thenQ_r ?_
      obtain ⟨v43, hm44, e45⟩ := esc_spec hm42
      obtain rfl := jn_inr hm hX4 (hb11 v43 e45)
      refine thenQ_r ?_
      refine blockQ_r ?_
      refine thenQ_r ?_
      cases hm44
      exact ⟨rfl, _, (res1 rfl), φ33, _, hS40, rfl, rfl⟩
    · have hm46 := hm32; rw [if_neg c41] at hm46; replace c41 := Hid.mk c41
      refine CK.condF (congrArg Value.bool (Bool.eq_false_iff.2 c41.out)) ?_
      refine CK.skip ?_
      refine blockQ_n ?_
      refine thenQ_n ?_
      refine CK.reg (ks := []) (.fl 0 (.fl 1 (.nil))) rfl ?_
      refine OKS.r rfl rfl rfl rfl (fun _ => Runs.to (Runs.addw rfl fi13 rfl) (congrArg (Value.int .i64) hi21.out)) ?_
      refine OKS.r rfl rfl rfl rfl (fun _ => Runs.mv rfl rfl) ?_
      refine OKS.e ?_
      obtain rfl := Option.some.inj hm46
      exact thenQ_n ⟨rfl, _, rfl, ⟨φ33, rfl, f17, f18, f19, (le15.trans le37), hS40⟩⟩
  · rintro ⟨⟩ σ47 W48 ⟨φ51, fi50, f54, f55, f56, le52, hS53⟩ hb49
    have hm57 := jn_inl hm hX4 hb49
    try dsimp only at hm57
    have c58 : Hid (¬ ((↑(((↑p0.length : Int) : Int) - 0).toNat : Int) < (↑p0.length : Int))) := Hid.mk (lp_end0)
    refine CK.seq ?_
    refine CK.reg (ks := []) (.fl 0 (.nil)) rfl ?_
    refine OKS.r rfl rfl rfl rfl (fun _ => Runs.lss rfl fi50 f56) ?_
    refine OKS.e ?_
    refine thenQ_n ?_
    refine CK.seq ?_
    refine CK.condF (decF c58.out) ?_
    refine CK.exit ?_
    refine thenQ_e ?_
    refine thenQ_e ?_
    refine blockQ_h ?_
    refine thenQ_n ?_
    refine CK.seq ?_
    refine CK.reg (ks := []) (.fl 0 (.nil)) rfl ?_
    refine OKS.r rfl rfl rfl rfl (fun _ => Runs.as rfl rfl) ?_
    refine OKS.e ?_
    refine thenQ_n ?_
    refine CK.ret ?_
    cases hm57
    exact ⟨rfl, _, (res1 rfl), φ51, _, hS53, rfl, rfl⟩

set_option maxHeartbeats 4000000 in
theorem w_slices_ContainsFunc_int_int (p0 : List Int) (pA0 : Option Addr) (pc0 : Nat) (p1 : (Int → Option Bool)) (pv1 : Value) (w : World) (φ : PHeap) (hS : St ⟨w, [], φ⟩ φ [] w) (ha0 : Sl φ 1 pA0 pc0 p0.length (List.flatMap encI p0)) (ha1 : FnOK Try.prog φ pv1 ar108 rr108 p1) {r : Bool} (hm : m_slices_ContainsFunc_int_int p0 p1 = some r) : Gv Try.prog 139 [.slice pA0 p0.length pc0, pv1] w (RetS w [] φ (fun φ_ L_ v => v = .bool r ∧ L_ = [])) := by
  unfold m_slices_ContainsFunc_int_int at hm
  refine Gv.of Try.func139 rfl Try.ntmps139 Try.results139 rfl ?_
  refine CK.seq ?_
  refine CK.reg (ks := []) (.fl 0 (.nil)) rfl ?_
  refine OKS.r rfl rfl rfl rfl (fun _ => Runs.as rfl rfl) ?_
  refine OKS.e ?_
  refine thenQ_n ?_
  refine CK.seq ?_
  refine CK.reg (ks := []) (.fl 0 (.fl 1 (.fx 2 (.fl 3 (.fl 4 (.nil))) .stop))) rfl ?_
  refine OKS.r rfl rfl rfl rfl (fun _ => Runs.mv rfl rfl) ?_
  refine OKS.r rfl rfl rfl rfl (fun _ => Runs.mv rfl rfl) ?_
  obtain ⟨x1, h2, hm3⟩ := bnd hm
  refine OKS.callH 0 rfl rfl rfl rfl (Enters.mk rfl rfl Try.call138 (mapcons rfl (mapcons rfl mapnil)) rfl) hS (fun hs => w_slices_IndexFunc_int_int p0 pA0 pc0 p1 pv1 w φ hs ha0 ha1 h2) (.inr rfl) ?_
  rintro φ4 L5 v6 W7 le8 hS9 ⟨rfl, rfl⟩
  have hS10 : St ⟨w, [], φ⟩ φ4 [] W7 := hS9
  refine OKS.r rfl rfl rfl rfl (fun _ => Runs.geq rfl rfl rfl) ?_
  refine OKS.r rfl rfl rfl rfl (fun _ => Runs.as rfl rfl) ?_
  refine OKS.e ?_
  refine thenQ_n ?_
  refine CK.ret ?_
  cases hm3
  exact ⟨rfl, _, (res1 rfl), φ4, _, hS10, rfl, rfl⟩

set_option maxHeartbeats 4000000 in
theorem w_target_all_int (p0 : List Int) (pA0 : Option Addr) (pc0 : Nat) (p1 : (Int → Option Bool)) (pv1 : Value) (w : World) (φ : PHeap) (hS : St ⟨w, [], φ⟩ φ [] w) (ha0 : Sl φ 1 pA0 pc0 p0.length (List.flatMap encI p0)) (ha1 : FnOK Try.prog φ pv1 ar108 rr108 p1) {r : Bool} (hm : m_target_all_int p0 p1 = some r) : Gv Try.prog 121 [.slice pA0 p0.length pc0, pv1] w (RetS w [] φ (fun φ_ L_ v => v = .bool r ∧ L_ = [])) := by
  unfold m_target_all_int at hm
  refine Gv.of Try.func121 rfl Try.ntmps121 Try.results121 rfl ?_
  refine CK.seq ?_
  refine CK.reg (ks := []) (.fx 0 (.fl 1 (.nil)) .stop) rfl ?_
  refine OKS.box (cs := [pv1]) rfl rfl rfl rfl rfl rfl (FnOK.cells ha1) hS ?_
  intro W1 b2 hS3
  obtain ⟨φ5, le6, hC7, hS8⟩ := hS3.freeze (k := 0) rfl
  replace hC7 := Cl.of hC7
  have hS9 : St ⟨w, [], φ⟩ φ5 [] W1 := hS8
  replace hC7 : Cl φ5 b2 0 [pv1] := hC7
  refine OKS.r rfl rfl rfl rfl (fun _ => Runs.as rfl rfl) ?_
  refine OKS.e ?_
  refine thenQ_n ?_
  refine CK.seq ?_
  refine CK.reg (ks := []) (.fl 0 (.fl 1 (.fx 2 (.fl 3 (.fl 4 (.nil))) .stop))) rfl ?_
  refine OKS.r rfl rfl rfl rfl (fun _ => Runs.mv rfl rfl) ?_
  refine OKS.r rfl rfl rfl rfl (fun _ => Runs.mkf rfl mapnil (mapcons rfl mapnil)) ?_
  have h10 := ha0.le le6
  have h11 := ha1.le le6
  have hF12 : FnOK Try.prog φ5 (.func (.func 144) #[] #[.pointer (some ⟨b2, 0, none⟩)]) ar108 rr108 (fun x => m_target_all_int_1 x p1) := ⟨144, [], [.pointer (some ⟨b2, 0, none⟩)], rfl, Try.call144, fun φ1 w1 x y vs le hs ha hm => by obtain rfl := ha; exact w_target_all_int_1 x p1 b2 pv1 w1 φ1 hs (hC7.le le) (h11.le le) hm⟩
  obtain ⟨x13, h14, hm15⟩ := bnd hm
  refine OKS.callH 0 rfl rfl rfl rfl (Enters.mk rfl rfl Try.call139 (mapcons rfl (mapcons rfl mapnil)) rfl) hS9 (fun hs => w_slices_ContainsFunc_int_int p0 pA0 pc0 (fun x => m_target_all_int_1 x p1) (.func (.func 144) #[] #[.pointer (some ⟨b2, 0, none⟩)]) W1 φ5 hs h10 hF12 h14) (.inr rfl) ?_
  rintro φ16 L17 v18 W19 le20 hS21 ⟨rfl, rfl⟩
  have hS22 : St ⟨w, [], φ⟩ φ16 [] W19 := hS21
  refine OKS.r rfl rfl rfl rfl (fun _ => Runs.notT rfl rfl) ?_
  refine OKS.r rfl rfl rfl rfl (fun _ => Runs.as rfl rfl) ?_
  refine OKS.e ?_
  refine thenQ_n ?_
  refine CK.ret ?_
  cases hm15
  exact ⟨rfl, _, (res1 rfl), φ16, _, hS22, rfl, rfl⟩

set_option maxHeartbeats 4000000 in
theorem w_target_due_1 (p0 : Int) (w : World) (φ : PHeap) (hS : St ⟨w, [], φ⟩ φ [] w)  {r : Bool} (hm : m_target_due_1 p0 = some r) : Gv Try.prog 125 [.int .i64 p0] w (RetS w [] φ (fun φ_ L_ v => v = .bool r ∧ L_ = [])) := by
  unfold m_target_due_1 at hm
  refine Gv.of Try.func125 rfl Try.ntmps125 Try.results125 rfl ?_
  refine CK.seq ?_
  refine CK.reg (ks := []) (.fl 0 (.nil)) rfl ?_
  refine OKS.r rfl rfl rfl rfl (fun _ => Runs.as rfl rfl) ?_
  refine OKS.e ?_
  refine thenQ_n ?_
  refine CK.seq ?_
  refine CK.reg (ks := []) (.fl 0 (.fx 1 (.fl 2 (.nil)) .stop)) rfl ?_
  refine OKS.r rfl rfl rfl rfl (fun _ => Runs.mv rfl rfl) ?_
  obtain ⟨x1, h2, hm3⟩ := bnd hm
  refine OKS.callH 0 rfl rfl rfl rfl (Enters.mk rfl rfl Try.call82 (mapcons rfl (mapcons rfl (mapcons rfl mapnil))) rfl) hS (fun hs => w_target_within p0 0 5 w φ hs h2) (.inr rfl) ?_
  rintro φ4 L5 v6 W7 le8 hS9 ⟨rfl, rfl⟩
  have hS10 : St ⟨w, [], φ⟩ φ4 [] W7 := hS9
  refine OKS.r rfl rfl rfl rfl (fun _ => Runs.as rfl rfl) ?_
  refine OKS.e ?_
  refine thenQ_n ?_
  refine CK.ret ?_
  cases hm3
  exact ⟨rfl, _, (res1 rfl), φ4, _, hS10, rfl, rfl⟩

set_option maxHeartbeats 4000000 in
theorem w_target_due (p0 : List Int) (pA0 : Option Addr) (pc0 : Nat) (p1 : List T_target_Sheet) (pA1 : Option Addr) (pc1 : Nat) (w : World) (φ : PHeap) (hS : St ⟨w, [], φ⟩ φ [] w) (ha0 : Sl φ 1 pA0 pc0 p0.length (List.flatMap encI p0)) (ha1 : Sl φ 4 pA1 pc1 p1.length (List.flatMap encT_target_Sheet p1)) {r : Int} (hm : m_target_due p0 p1 = some r) : Gv Try.prog 75 [.slice pA0 p0.length pc0, .slice pA1 p1.length pc1] w (RetS w [] φ (fun φ_ L_ v => v = .int .i64 r ∧ L_ = [])) := by
  unfold m_target_due at hm
  refine Gv.of Try.func75 rfl Try.ntmps75 Try.results75 rfl ?_
  refine CK.seq ?_
  refine CK.reg (ks := []) (.fl 0 (.nil)) rfl ?_
  refine OKS.r rfl rfl rfl rfl (fun _ => Runs.as rfl rfl) ?_
  refine OKS.e ?_
  refine thenQ_n ?_
  refine CK.seq ?_
  refine CK.block ?_
  refine CK.seq ?_
  refine CK.reg (ks := []) (.fl 0 (.fl 1 (.fx 2 (.fl 3 (.fl 4 (.nil))) .stop))) rfl ?_
  refine OKS.r rfl rfl rfl rfl (fun _ => Runs.mv rfl rfl) ?_
  refine OKS.r rfl rfl rfl rfl (fun _ => Runs.len rfl rfl Try.runUnderlying23) ?_
  obtain ⟨x1, h2, hm3⟩ := bnd hm
  refine OKS.callH 0 rfl rfl rfl rfl (Enters.mk rfl rfl Try.call82 (mapcons rfl (mapcons rfl (mapcons rfl mapnil))) rfl) hS (fun hs => w_target_within (↑p0.length : Int) 1 8 w φ hs h2) (.inr rfl) ?_
  rintro φ4 L5 v6 W7 le8 hS9 ⟨rfl, rfl⟩
  have hS10 : St ⟨w, [], φ⟩ φ4 [] W7 := hS9
  refine OKS.r rfl rfl rfl rfl (fun _ => Runs.notT rfl rfl) ?_
  refine OKS.r rfl rfl rfl rfl (fun _ => Runs.as rfl rfl) ?_
  refine OKS.e ?_
  refine thenQ_n ?_
  by_cases c11 : x1 = true
  · have hm12 := hm3; rw [if_pos c11] at hm12; replace c11 := Hid.mk c11
    refine CK.condF (congrArg (fun b => Value.bool (!b)) c11.out) ?_
    refine CK.seq ?_
    refine CK.reg (ks := []) (.fl 0 (.fx 1 (.fl 2 (.fl 3 (.nil))) .stop)) rfl ?_
    refine OKS.r rfl rfl rfl rfl (fun _ => Runs.mv rfl rfl) ?_
    have h13 := ha0.le le8
    have hF14 : FnOK Try.prog φ4 (.func (.func 125) #[] #[]) ar108 rr108 m_target_due_1 := ⟨125, [], [], rfl, Try.call125, fun φ1 w1 x y vs le hs ha hm => by obtain rfl := ha; exact w_target_due_1 x w1 φ1 hs  hm⟩
    obtain ⟨x15, h16, hm17⟩ := bnd hm12
    refine OKS.callH 0 rfl rfl rfl rfl (Enters.mk rfl rfl Try.call121 (mapcons rfl (mapcons rfl mapnil)) rfl) hS10 (fun hs => w_target_all_int p0 pA0 pc0 m_target_due_1 (.func (.func 125) #[] #[]) W7 φ4 hs h13 hF14 h16) (.inr rfl) ?_
    rintro φ18 L19 v20 W21 le22 hS23 ⟨rfl, rfl⟩
    have hS24 : St ⟨w, [], φ⟩ φ18 [] W21 := hS23
    refine OKS.r rfl rfl rfl rfl (fun _ => Runs.notT rfl rfl) ?_
    refine OKS.r rfl rfl rfl rfl (fun _ => Runs.as rfl rfl) ?_
    refine OKS.e ?_
    refine thenQ_n ?_
    by_cases c25 : x15 = true
    · have hm26 := hm17; rw [if_pos c25] at hm26; replace c25 := Hid.mk c25
      refine CK.condF (congrArg (fun b => Value.bool (!b)) c25.out) ?_
      refine CK.skip ?_
      refine blockQ_n ?_
      refine thenQ_n ?_
      refine CK.seq ?_
      refine CK.reg (ks := []) (.fl 0 (.fl 1 (.fl 2 (.fx 3 (.fl 4 (.nil)) .stop)))) rfl ?_
      refine OKS.r rfl rfl rfl rfl (fun _ => Runs.mv rfl rfl) ?_
      refine OKS.r rfl rfl rfl rfl (fun _ => Runs.len rfl rfl Try.runUnderlying23) ?_
      refine OKS.r rfl rfl rfl rfl (fun _ => Runs.mv rfl rfl) ?_
      have h27 := ha1.le le8
      have h28 := h27.le le22
      obtain ⟨x29, h30, hm31⟩ := bnd hm26
      refine OKS.callH 0 rfl rfl rfl rfl (Enters.mk rfl rfl Try.call27 (mapcons rfl (mapcons rfl mapnil)) rfl) hS24 (fun hs => w_target_CheckSheets (↑p0.length : Int) p1 pA1 pc1 W21 φ18 hs h28 h30) (.inr rfl) ?_
      rintro φ32 L33 v34 W35 le36 hS37 ⟨rfl, rfl⟩
      have hS38 : St ⟨w, [], φ⟩ φ32 [] W35 := hS37
      refine OKS.r rfl rfl rfl rfl (fun _ => Runs.as rfl rfl) ?_
      refine OKS.e ?_
      refine thenQ_n ?_
      refine CK.ret ?_
      cases hm31
      exact ⟨rfl, _, (res1 rfl), φ32, _, hS38, rfl, rfl⟩
    · have hm39 := hm17; rw [if_neg c25] at hm39; replace c25 := Hid.mk c25
      refine CK.condT (congrArg (fun b => Value.bool (!b)) (Bool.eq_false_iff.2 c25.out)) ?_
      refine CK.seq ?_
      refine CK.reg (ks := []) (.fl 0 (.nil)) rfl ?_
      refine OKS.r rfl rfl rfl rfl (fun _ => Runs.as rfl rfl) ?_
      refine OKS.e ?_
      refine thenQ_n ?_
      refine CK.ret ?_
      refine blockQ_r ?_
      refine thenQ_r ?_
      cases hm39
      exact ⟨rfl, _, (res1 rfl), φ18, _, hS24, rfl, rfl⟩
  · have hm40 := hm3; rw [if_neg c11] at hm40; replace c11 := Hid.mk c11
    refine CK.condT (congrArg (fun b => Value.bool (!b)) (Bool.eq_false_iff.2 c11.out)) ?_
    refine CK.seq ?_
    refine CK.reg (ks := []) (.fl 0 (.nil)) rfl ?_
    refine OKS.r rfl rfl rfl rfl (fun _ => Runs.as rfl rfl) ?_
    refine OKS.e ?_
    refine thenQ_n ?_
    refine CK.ret ?_
    refine blockQ_r ?_
    refine thenQ_r ?_
    cases hm40
    exact ⟨rfl, _, (res1 rfl), φ4, _, hS10, rfl, rfl⟩

set_option maxHeartbeats 4000000 in
theorem w_target_Few (p0 : List Int) (pA0 : Option Addr) (pc0 : Nat) (p1 : List T_target_Sheet) (pA1 : Option Addr) (pc1 : Nat) (w : World) (φ : PHeap) (hS : St ⟨w, [], φ⟩ φ [] w) (ha0 : Sl φ 1 pA0 pc0 p0.length (List.flatMap encI p0)) (ha1 : Sl φ 4 pA1 pc1 p1.length (List.flatMap encT_target_Sheet p1)) {r : Bool × Int} (hm : m_target_Few p0 p1 = some r) : Gv Try.prog 23 [.slice pA0 p0.length pc0, .slice pA1 p1.length pc1] w (RetS w [] φ (fun φ_ L_ v => v = .tuple #[.bool r.1, .int .i64 r.2] ∧ L_ = [])) := by
  unfold m_target_Few at hm
  refine Gv.of Try.func23 rfl Try.ntmps23 Try.results23 rfl ?_
  refine CK.seq ?_
  refine CK.reg (ks := []) (.fl 0 (.fl 1 (.nil))) rfl ?_
  refine OKS.r rfl rfl rfl rfl (fun _ => Runs.as rfl rfl) ?_
  refine OKS.r rfl rfl rfl rfl (fun _ => Runs.as rfl rfl) ?_
  refine OKS.e ?_
  refine thenQ_n ?_
  refine CK.seq ?_
  refine CK.seq ?_
  refine CK.reg (ks := []) (.fl 0 (.fl 1 (.fx 2 (.fl 3 (.nil)) .stop))) rfl ?_
  refine OKS.r rfl rfl rfl rfl (fun _ => Runs.mv rfl rfl) ?_
  refine OKS.r rfl rfl rfl rfl (fun _ => Runs.mv rfl rfl) ?_
  obtain ⟨x1, h2, hm3⟩ := bnd hm
  refine OKS.callH 0 rfl rfl rfl rfl (Enters.mk rfl rfl Try.call75 (mapcons rfl (mapcons rfl mapnil)) rfl) hS (fun hs => w_target_due p0 pA0 pc0 p1 pA1 pc1 w φ hs ha0 ha1 h2) (.inr rfl) ?_
  rintro φ4 L5 v6 W7 le8 hS9 ⟨rfl, rfl⟩
  have hS10 : St ⟨w, [], φ⟩ φ4 [] W7 := hS9
  refine OKS.r rfl rfl rfl rfl (fun _ => Runs.as rfl rfl) ?_
  refine OKS.e ?_
  refine thenQ_n ?_
  refine CK.seq ?_
  refine CK.reg (ks := []) (.fl 0 (.fl 1 (.nil))) rfl ?_
  refine OKS.r rfl rfl rfl rfl (fun _ => Runs.mv rfl rfl) ?_
  refine OKS.r rfl rfl rfl rfl (fun _ => Runs.neq rfl rfl rfl) ?_
  refine OKS.e ?_
  refine thenQ_n ?_
  by_cases c11 : x1 = 0
  · have hm12 := hm3; rw [if_pos c11] at hm12; replace c11 := Hid.mk c11
    refine CK.condF (decF (fun h => h c11.out)) ?_
    refine CK.skip ?_
    refine thenQ_n ?_
    refine CK.seq ?_
    refine CK.reg (ks := []) (.fl 0 (.fl 1 (.fl 2 (.fl 3 (.fl 4 (.fl 5 (.fx 6 (.fx 7 (.fl 8 (.fl 9 (.fl 10 (.fx 11 (.fx 12 (.fl 13 (.nil)) .stop) .stop)))) .stop) .stop))))))) rfl ?_
    refine OKS.r rfl rfl rfl rfl (fun _ => Runs.mv rfl rfl) ?_
    refine OKS.r rfl rfl rfl rfl (fun _ => Runs.len rfl rfl Try.runUnderlying23) ?_
    refine OKS.r rfl rfl rfl rfl (fun _ => Runs.mv rfl rfl) ?_
    refine OKS.r rfl rfl rfl rfl (fun _ => Runs.len rfl rfl Try.runUnderlying23) ?_
    refine OKS.r rfl rfl rfl rfl (fun _ => Runs.mv rfl rfl) ?_
    refine OKS.r rfl rfl rfl rfl (fun _ => Runs.mv rfl rfl) ?_
    have h13 := ha1.le le8
    have h14 := ha0.le le8
    obtain ⟨x15, h16, hm17⟩ := bnd hm12
    refine OKS.callH 0 rfl rfl rfl rfl (Enters.mk rfl rfl Try.call77 (mapcons rfl (mapcons rfl (mapcons rfl mapnil))) rfl) hS10 (fun hs => w_target_links (↑p0.length : Int) p1 pA1 pc1 p0 pA0 pc0 W7 φ4 hs h13 h14 h16) (.inr rfl) ?_
    rintro φ18 L19 v20 W21 le22 hS23 ⟨A24, c25, c26, rfl, rfl, h28⟩
    have hS29 : St ⟨w, [], φ⟩ φ18 [.row A24 c25 189 5 c26] W21 := hS23
    obtain ⟨φ30, le31, hs32, hS33⟩ := hS29.freezeRR (R := rl189) (k := 0) rfl h28 rfl (by decide)
    have hS34 : St ⟨w, [], φ⟩ φ30 [] W21 := hS33
    obtain ⟨⟨x35, x36⟩, h37, hm38⟩ := bnd hm17
    try dsimp only at hm38
    refine OKS.callH 0 rfl rfl rfl rfl (Enters.mk rfl rfl Try.call76 (mapcons rfl (mapcons rfl mapnil)) rfl) hS34 (fun hs => w_target_distances (↑p0.length : Int) x15 A24 c25 W21 φ30 hs hs32 h37) (.inr rfl) ?_
    rintro φ39 L40 v41 W42 le43 hS44 ⟨rfl, rfl⟩
    have hS45 : St ⟨w, [], φ⟩ φ39 [] W42 := hS44
    refine OKS.r rfl rfl rfl rfl (fun _ => Runs.mv rfl rfl) ?_
    refine OKS.r rfl rfl rfl rfl (fun _ => Runs.ext rfl rfl (v := .agg (List.flatMap encI x35.l).toArray) rfl) ?_
    refine OKS.r rfl rfl rfl rfl (fun _ => Runs.ext rfl rfl (v := .bool x36) rfl) ?_
    refine OKS.alloc (cs := List.flatMap encI (Arr.fill 81 0).l) rfl rfl rfl rfl rfl Try.zeroValue136 rfl hS45 ?_
    intro W46 b47 hS48
    have hS50 : St ⟨w, [], φ⟩ φ39 [.blk b47 136 (List.flatMap encI (Arr.fill 81 0).l)] W46 := hS48
    refine OKS.st (j := 0) (vs := List.flatMap encI x35.l) rfl rfl rfl rfl hS50 rfl rfl rfl rfl (fun w => by rw [whole_len (f := encI) (sz := 1) (N := 81) x35 (fun _ => rfl) rfl]; exact Try.sizeOf136 w) (by rw [whole_len (f := encI) (sz := 1) (N := 81) x35 (fun _ => rfl) rfl, whole_len (f := encI) (sz := 1) (N := 81) (Arr.fill 81 0) (fun _ => rfl) rfl]; exact Nat.le_of_ble_eq_true rfl) (all_one_flat (fun _ => rfl) _) (setN_all _ _ (by rw [whole_len (f := encI) (sz := 1) (N := 81) x35 (fun _ => rfl) rfl, whole_len (f := encI) (sz := 1) (N := 81) (Arr.fill 81 0) (fun _ => rfl) rfl])) rfl ?_
    intro W51 hS52
    have hS53 : St ⟨w, [], φ⟩ φ39 [.blk b47 136 (List.flatMap encI x35.l)] W51 := hS52
    refine OKS.r rfl rfl rfl rfl (fun _ => Runs.as rfl rfl) ?_
    refine OKS.e ?_
    refine thenQ_n ?_
    refine CK.seq ?_
    refine CK.reg (ks := []) (.fl 0 (.fl 1 (.fl 2 (.fl 3 (.nil))))) rfl ?_
    refine OKS.r rfl rfl rfl rfl (fun _ => Runs.mv rfl rfl) ?_
    refine OKS.r rfl rfl rfl rfl (fun _ => Runs.notT rfl rfl) ?_
    refine OKS.r rfl rfl rfl rfl (fun _ => Runs.as rfl rfl) ?_
    refine OKS.r rfl rfl rfl rfl (fun _ => Runs.as rfl rfl) ?_
    refine OKS.e ?_
    refine thenQ_n ?_
    refine CK.ret ?_
    cases hm38
    exact ⟨rfl, _, (res2 rfl rfl), φ39, _, (hS53.pick [] _ (by decide) rfl), rfl, rfl⟩
  · have hm54 := hm3; rw [if_neg c11] at hm54; replace c11 := Hid.mk c11
    refine CK.condT (decT c11.out) ?_
    refine CK.seq ?_
    refine CK.reg (ks := []) (.fl 0 (.fl 1 (.fl 2 (.nil)))) rfl ?_
    refine OKS.r rfl rfl rfl rfl (fun _ => Runs.mv rfl rfl) ?_
    refine OKS.r rfl rfl rfl rfl (fun _ => Runs.as rfl rfl) ?_
    refine OKS.r rfl rfl rfl rfl (fun _ => Runs.as rfl rfl) ?_
    refine OKS.e ?_
    refine thenQ_n ?_
    refine CK.ret ?_
    refine thenQ_r ?_
    cases hm54
    exact ⟨rfl, _, (res2 rfl rfl), φ4, _, hS10, rfl, rfl⟩

set_option maxHeartbeats 4000000 in
theorem w_slices_Reverse_target_Step_target_Step (p0 : List T_target_Step) (pA0 : Option Addr) (pc0 : Nat) (w : World) (φ : PHeap) (hS : St ⟨w, [.row pA0 pc0 114 2 (List.flatMap encT_target_Step p0)], φ⟩ φ [.row pA0 pc0 114 2 (List.flatMap encT_target_Step p0)] w)  {r : (List T_target_Step)} (hm : m_slices_Reverse_target_Step_target_Step p0 = some r) : Gv Try.prog 141 [.slice pA0 p0.length pc0] w (RetS w [.row pA0 pc0 114 2 (List.flatMap encT_target_Step p0)] φ (fun φ_ L_ v => v = .tuple #[] ∧ L_ = [.row pA0 pc0 114 2 (List.flatMap encT_target_Step r)] ∧ r.length = p0.length)) := by
  unfold m_slices_Reverse_target_Step_target_Step at hm
  refine Gv.of Try.func141 rfl Try.ntmps141 Try.results141 rfl ?_
  refine CK.seq ?_
  refine CK.reg (ks := []) (.fl 0 (.fl 1 (.fl 2 (.fl 3 (.fl 4 (.nil)))))) rfl ?_
  refine OKS.r rfl rfl rfl rfl (fun _ => Runs.mv rfl rfl) ?_
  refine OKS.r rfl rfl rfl rfl (fun _ => Runs.len rfl rfl Try.runUnderlying110) ?_
  refine OKS.r rfl rfl rfl rfl (fun _ => Runs.subw rfl rfl rfl) ?_
  refine OKS.r rfl rfl rfl rfl (fun _ => Runs.as rfl rfl) ?_
  refine OKS.r rfl rfl rfl rfl (fun _ => Runs.as rfl rfl) ?_
  refine OKS.e ?_
  refine thenQ_n ?_
  refine CK.block ?_
  refine CK.iter (fun (l11, x12, x13) σ_ w_ => ∃ (φ_ : PHeap), σ_ 0 = .slice pA0 l11.length pc0 ∧ σ_ 2 = .int .i64 x12 ∧ σ_ 3 = .int .i64 x13 ∧ PHeap.Le φ φ_ ∧ St ⟨w, [.row pA0 pc0 114 2 (List.flatMap encT_target_Step p0)], φ⟩ φ_ [.row pA0 pc0 114 2 (List.flatMap encT_target_Step l11)] w_ ∧ l11.length = p0.length) hm ?_ ?_
  · exact ⟨φ, rfl, rfl, rfl, (PHeap.Le.refl _), hS, (by first | rfl | assumption | (simp only [List.length_set]; first | rfl | assumption))⟩
  · rintro ⟨l11, x12, x13⟩ xx16 σ14 W15 ⟨φ21, f24, f25, f26, le22, hS23, h27⟩ hx17 hb18
    try dsimp only at hx17
    refine CK.seq ?_
    refine CK.seq ?_
    refine CK.reg (ks := []) (.fl 0 (.fl 1 (.fl 2 (.nil)))) rfl ?_
    refine OKS.r rfl rfl rfl rfl (fun _ => Runs.mv rfl f25) ?_
    refine OKS.r rfl rfl rfl rfl (fun _ => Runs.mv rfl f26) ?_
    refine OKS.r rfl rfl rfl rfl (fun _ => Runs.lss rfl rfl rfl) ?_
    refine OKS.e ?_
    refine thenQ_n ?_
    by_cases c28 : x12 < x13
    · have hm29 := hx17; rw [if_pos c28] at hm29; replace c28 := Hid.mk c28
      refine CK.condT (decT c28.out) ?_
      refine CK.skip ?_
      refine thenQ_n ?_
      refine CK.seq ?_
      refine CK.block ?_
      refine CK.anyOrd Try.mixed [3, 3, 3, 3, 3, 3, 3, 1, 3, 3, 3, 1, 3, 0, 3, 0] (.fl 0 (.fl 1 (.fl 2 (.fl 3 (.fl 4 (.fl 5 (.fl 6 (.fl 7 (.fl 8 (.fl 9 (.fl 10 (.fl 11 (.fl 12 (.fx 13 (.fl 14 (.fx 15 (.nil) .stop)) .stop)))))))))))))) (by kernel_rfl) ?_
      have hS30 := hS23.drew
      generalize hw_W31 : ({ W15 with drawn := W15.drawn + 1 } : World) = W31 at hS30 ⊢
      refine OKS.r rfl rfl rfl rfl (fun _ => Runs.mv rfl f24) ?_
      refine OKS.r rfl rfl rfl rfl (fun _ => Runs.mv rfl f25) ?_
      refine OKS.r rfl rfl rfl rfl (fun _ => Runs.mv rfl f24) ?_
      refine OKS.r rfl rfl rfl rfl (fun _ => Runs.mv rfl f26) ?_
      refine OKS.r rfl rfl rfl rfl (fun _ => Runs.mv rfl f24) ?_
      refine OKS.r rfl rfl rfl rfl (fun _ => Runs.mv rfl f26) ?_
      obtain ⟨_, h32, hm33⟩ := bnd hm29
      obtain ⟨b34, hA35⟩ := hS30.rowSome (j := 0) rfl (by rw [flatMap_len (f := encT_target_Step) (sz := 2) (fun _ => rfl) l11]; have hz := chk_lt h32; omega)
      refine OKS.r rfl rfl rfl rfl (fun _ => Runs.iaI rfl rfl hA35 rfl Try.runUnderlying110 Try.sizeOf114 (chk_lo h32) (chk_hi h32)) ?_
      have hg36 := gd_at (xs := l11) (chk_lt h32)
      refine OKS.m rfl rfl rfl rfl (hS30.ldRA (j := 0) rfl hA35 rfl rfl Try.isAgg114 Try.sizeOf114 (vs := [.int .i64 ((gd l11 x13.toNat).Kind), .int .i64 ((gd l11 x13.toNat).Index)]) (flatMap_sub (sz := 2) (fun _ => rfl) _ _ _ hg36 (by omega) rfl) rfl) rfl ?_
      refine OKS.r rfl rfl rfl rfl (fun _ => Runs.mv rfl f24) ?_
      refine OKS.r rfl rfl rfl rfl (fun _ => Runs.mv rfl f25) ?_
      obtain ⟨_, h37, hm38⟩ := bnd hm33
      refine OKS.r rfl rfl rfl rfl (fun _ => Runs.iaI rfl rfl hA35 rfl Try.runUnderlying110 Try.sizeOf114 (chk_lo h37) (chk_hi h37)) ?_
      have hg39 := gd_at (xs := l11) (chk_lt h37)
      refine OKS.m rfl rfl rfl rfl (hS30.ldRA (j := 0) rfl hA35 rfl rfl Try.isAgg114 Try.sizeOf114 (vs := [.int .i64 ((gd l11 x12.toNat).Kind), .int .i64 ((gd l11 x12.toNat).Index)]) (flatMap_sub (sz := 2) (fun _ => rfl) _ _ _ hg39 (by omega) rfl) rfl) rfl ?_
      refine OKS.r rfl rfl rfl rfl (fun _ => Runs.iaI rfl rfl hA35 rfl Try.runUnderlying110 Try.sizeOf114 (chk_lo h37) (chk_hi h37)) ?_
      have hg40 := gd_at (xs := l11) (chk_lt h37)
      refine OKS.stR (j := 0) (vs := [.int .i64 ((gd l11 x13.toNat).Kind), .int .i64 ((gd l11 x13.toNat).Index)]) (cs' := List.flatMap encT_target_Step (List.set l11 x12.toNat (gd l11 x13.toNat))) rfl rfl rfl rfl hS30 rfl hA35 rfl rfl rfl Try.sizeOf114 (by rw [flatMap_len (f := encT_target_Step) (sz := 2) (fun _ => rfl)]; have hz := chk_lt h37; simp only [List.getElem_toArray, List.getElem_cons_succ, List.getElem_cons_zero, List.length_cons, List.length_nil]; omega) rfl (setN_at (sz := 2) (fo := 0) (fun _ => rfl) _ _ _ _ hg40 (by first | omega | (simp only [List.getElem_toArray, List.getElem_cons_succ, List.getElem_cons_zero]; omega)) (Nat.le_of_ble_eq_true rfl) rfl) rfl ?_
      intro W41 hS42
      have hS43 : St ⟨w, [.row pA0 pc0 114 2 (List.flatMap encT_target_Step p0)], φ⟩ φ21 [.row pA0 pc0 114 2 (List.flatMap encT_target_Step (List.set l11 x12.toNat (gd l11 x13.toNat)))] W41 := hS42
      obtain ⟨_, h44, hm45⟩ := bnd hm38
      refine OKS.r rfl rfl rfl rfl (fun _ => Runs.iaI rfl (Eq.trans (b := (.slice pA0 l11.length pc0 : Value)) (c := (.slice pA0 ((List.set l11 x12.toNat (gd l11 x13.toNat)).length) pc0 : Value)) rfl (by simp only [List.length_set])) hA35 rfl Try.runUnderlying110 Try.sizeOf114 (chk_lo h44) (chk_hi h44)) ?_
      have hg46 := gd_at (xs := (List.set l11 x12.toNat (gd l11 x13.toNat))) (chk_lt h44)
      refine OKS.stR (j := 0) (vs := [.int .i64 ((gd l11 x12.toNat).Kind), .int .i64 ((gd l11 x12.toNat).Index)]) (cs' := List.flatMap encT_target_Step (List.set (List.set l11 x12.toNat (gd l11 x13.toNat)) x13.toNat (gd l11 x12.toNat))) rfl rfl rfl rfl hS43 rfl hA35 rfl rfl rfl Try.sizeOf114 (by rw [flatMap_len (f := encT_target_Step) (sz := 2) (fun _ => rfl)]; have hz := chk_lt h44; simp only [List.getElem_toArray, List.getElem_cons_succ, List.getElem_cons_zero, List.length_cons, List.length_nil]; omega) rfl (setN_at (sz := 2) (fo := 0) (fun _ => rfl) _ _ _ _ hg46 (by first | omega | (simp only [List.getElem_toArray, List.getElem_cons_succ, List.getElem_cons_zero]; omega)) (Nat.le_of_ble_eq_true rfl) rfl) rfl ?_
      intro W47 hS48
      have hS49 : St ⟨w, [.row pA0 pc0 114 2 (List.flatMap encT_target_Step p0)], φ⟩ φ21 [.row pA0 pc0 114 2 (List.flatMap encT_target_Step (List.set (List.set l11 x12.toNat (gd l11 x13.toNat)) x13.toNat (gd l11 x12.toNat)))] W47 := hS48
      refine OKS.e ?_
      refine blockQ_n ?_
      refine thenQ_n ?_
      refine CK.reg (ks := []) (.fl 0 (.fl 1 (.fl 2 (.fl 3 (.fl 4 (.fl 5 (.nil))))))) rfl ?_
      refine OKS.r rfl rfl rfl rfl (fun _ => Runs.mv rfl f25) ?_
      refine OKS.r rfl rfl rfl rfl (fun _ => Runs.addw rfl rfl rfl) ?_
      refine OKS.r rfl rfl rfl rfl (fun _ => Runs.mv rfl f26) ?_
      refine OKS.r rfl rfl rfl rfl (fun _ => Runs.subw rfl rfl rfl) ?_
      refine OKS.r rfl rfl rfl rfl (fun _ => Runs.as rfl rfl) ?_
      refine OKS.r rfl rfl rfl rfl (fun _ => Runs.as rfl rfl) ?_
      refine OKS.e ?_
      obtain rfl := Option.some.inj hm45
      exact thenQ_n ⟨rfl, _, rfl, ⟨φ21, (Eq.trans (b := (.slice pA0 ((List.set l11 x12.toNat (gd l11 x13.toNat)).length) pc0 : Value)) (c := (.slice pA0 ((List.set (List.set l11 x12.toNat (gd l11 x13.toNat)) x13.toNat (gd l11 x12.toNat)).length) pc0 : Value)) (Eq.trans (b := (.slice pA0 l11.length pc0 : Value)) (c := (.slice pA0 ((List.set l11 x12.toNat (gd l11 x13.toNat)).length) pc0 : Value)) f24 (by simp only [List.length_set])) (by simp only [List.length_set])), rfl, rfl, le22, hS49, (by first | rfl | assumption | (simp only [List.length_set]; first | rfl | assumption))⟩⟩
    · have hm53 := hx17; rw [if_neg c28] at hm53; replace c28 := Hid.mk c28
      refine CK.condF (decF c28.out) ?_
      refine CK.exit ?_
      refine thenQ_e ?_
      obtain ⟨v54, hm55, e56⟩ := esc_spec hm53
      obtain rfl := hb18 v54 e56
      refine thenQ_e ?_
      refine blockQ_h ?_
      cases hm55
      exact ⟨rfl, _, (res0), φ21, _, hS23, rfl, rfl, (by first | rfl | assumption | (simp only [List.length_set]; first | rfl | assumption))⟩

set_option maxHeartbeats 4000000 in
theorem w_target_round (p0 : Int) (p1 : List T_target_link) (pA1 : Option Addr) (pc1 : Nat) (w : World) (φ : PHeap) (hS : St ⟨w, [], φ⟩ φ [] w) (ha0 : SlR φ rl189 pA1 pc1 p1) {r : (List T_target_Step)} (hm : m_target_round p0 p1 = some r) : Gv Try.prog 116 [.int .i64 p0, .slice pA1 p1.length pc1] w (RetS w [] φ (fun φ_ L_ v => ∃ (A0 : Option Addr) (c0 : Nat), v = .slice A0 r.length c0 ∧ L_ = [.row A0 c0 114 2 (List.flatMap encT_target_Step r)] ∧ (r = [] → A0 = none))) := by
  unfold m_target_round at hm
  refine Gv.of Try.func116 rfl Try.ntmps116 Try.results116 rfl ?_
  refine CK.seq ?_
  refine CK.reg (ks := []) (.fl 0 (.nil)) rfl ?_
  refine OKS.r rfl rfl rfl rfl (fun _ => Runs.as rfl rfl) ?_
  refine OKS.e ?_
  refine thenQ_n ?_
  refine CK.scope ?_
  refine CK.seq ?_
  refine CK.reg (ks := []) (.fx 0 (.fx 1 (.nil) .stop) .stop) rfl ?_
  refine OKS.alloc (cs := List.flatMap encI (Arr.fill 9 0).l) rfl rfl rfl rfl rfl Try.zeroValue135 rfl hS ?_
  intro W1 b2 hS3
  have hS5 : St ⟨w, [], φ⟩ φ [.blk b2 135 (List.flatMap encI (Arr.fill 9 0).l)] W1 := hS3
  refine OKS.alloc (cs := List.flatMap encI (Arr.fill 9 0).l) rfl rfl rfl rfl rfl Try.zeroValue135 rfl hS5 ?_
  intro W6 b7 hS8
  have hS10 : St ⟨w, [], φ⟩ φ [.blk b7 135 (List.flatMap encI (Arr.fill 9 0).l), .blk b2 135 (List.flatMap encI (Arr.fill 9 0).l)] W6 := hS8
  refine OKS.e ?_
  refine thenQ_n ?_
  refine CK.seq ?_
  refine CK.reg (ks := []) (.fl 0 (.nil)) rfl ?_
  refine OKS.r rfl rfl rfl rfl (fun _ => Runs.as rfl rfl) ?_
  refine OKS.e ?_
  refine thenQ_n ?_
  refine CK.seq ?_
  refine CK.label ?_
  refine thenQ_n ?_
  refine CK.seq ?_
  refine CK.seq ?_
  refine CK.reg (ks := []) (.fl 0 (.fl 1 (.fl 2 (.nil)))) rfl ?_
  refine OKS.r rfl rfl rfl rfl (fun _ => Runs.mv rfl rfl) ?_
  refine OKS.r rfl rfl rfl rfl (fun _ => Runs.addw rfl rfl rfl) ?_
  refine OKS.r rfl rfl rfl rfl (fun _ => Runs.mv rfl rfl) ?_
  refine OKS.e ?_
  refine thenQ_n ?_
  refine CK.block ?_
  obtain ⟨r26, hX27⟩ := jn_some hm
  obtain ⟨hle28, hf29⟩ := forR_le hX27
  replace hle28 := Hid.mk hle28
  refine CK.forN (fun k25 (a22, a23, x24) σ_ w_ => ∃ (φ_ : PHeap), σ_ 15 = .int .i64 (↑k25 : Int) ∧ σ_ 0 = .int .i64 p0 ∧ σ_ 1 = .slice pA1 p1.length pc1 ∧ σ_ 5 = .pointer (some ⟨b2, 0, none⟩) ∧ σ_ 6 = .pointer (some ⟨b7, 0, none⟩) ∧ σ_ 7 = .int .i64 x24 ∧ σ_ 14 = .int .i64 (w64 (p0 + 2)) ∧ PHeap.Le φ φ_ ∧ St ⟨w, [], φ⟩ φ_ [.blk b7 135 (List.flatMap encI a22.l), .blk b2 135 (List.flatMap encI a23.l)] w_) hf29 ?_ ?_ ?_
  · exact ⟨φ, rfl, rfl, rfl, rfl, rfl, rfl, rfl, (PHeap.Le.refl _), hS10⟩
  · rintro k25 ⟨a22, a23, x24⟩ xx32 σ30 W31 hk35 ⟨φ37, fi36, f40, f41, f42, f43, f44, f45, le38, hS39⟩ hx33 hb34
    try dsimp only at hx33
    have c46 : Hid ((↑k25 : Int) < (w64 (p0 + 2))) := Hid.mk (lp_lt0 hk35)
    replace hk35 := Hid.mk hk35
    have hi47 : Hid (w64 ((↑k25 : Int) + 1) = (↑(k25 + 1) : Int)) := Hid.mk (by have h1 := hle28.out; have h2 := c46.out; rw [w64_in] <;> omega)
    refine CK.seq ?_
    refine CK.reg (ks := []) (.fl 0 (.nil)) rfl ?_
    refine OKS.r rfl rfl rfl rfl (fun _ => Runs.lss rfl fi36 f45) ?_
    refine OKS.e ?_
    refine thenQ_n ?_
    refine CK.seq ?_
    refine CK.condT (decT c46.out) ?_
    refine CK.skip ?_
    refine thenQ_n ?_
    refine CK.seq ?_
    refine CK.block ?_
    refine CK.seq ?_
    refine CK.reg (ks := []) (.fl 0 (.nil)) rfl ?_
    refine OKS.r rfl rfl rfl rfl (fun _ => Runs.as rfl rfl) ?_
    refine OKS.e ?_
    refine thenQ_n ?_
    refine CK.seq ?_
    refine CK.seq ?_
    refine CK.reg (ks := []) (.fl 0 (.fl 1 (.fl 2 (.nil)))) rfl ?_
    refine OKS.r rfl rfl rfl rfl (fun _ => Runs.mv rfl f41) ?_
    refine OKS.r rfl rfl rfl rfl (fun _ => Runs.len rfl rfl Try.runUnderlying142) ?_
    refine OKS.r rfl rfl rfl rfl (fun _ => Runs.mv rfl rfl) ?_
    refine OKS.e ?_
    refine thenQ_n ?_
    refine CK.block ?_
    obtain ⟨⟨y67, y68, y69⟩, hf64, hm63⟩ := bnd hx33
    try dsimp only at hm63
    obtain ⟨hle65, hf66⟩ := forR'_le hf64
    replace hle65 := Hid.mk hle65
    refine CK.forN' (fun k62 (a59, a60, x61) σ_ w_ => ∃ (φ_ : PHeap), σ_ 19 = .int .i64 (↑k62 : Int) ∧ σ_ 0 = .int .i64 p0 ∧ σ_ 1 = .slice pA1 p1.length pc1 ∧ σ_ 5 = .pointer (some ⟨b2, 0, none⟩) ∧ σ_ 6 = .pointer (some ⟨b7, 0, none⟩) ∧ σ_ 7 = .int .i64 x61 ∧ σ_ 14 = .int .i64 (w64 (p0 + 2)) ∧ σ_ 15 = .int .i64 (↑k25 : Int) ∧ σ_ 17 = .slice pA1 p1.length pc1 ∧ σ_ 18 = .int .i64 (↑p1.length : Int) ∧ PHeap.Le φ37 φ_ ∧ St ⟨w, [], φ⟩ φ_ [.blk b7 135 (List.flatMap encI a59.l), .blk b2 135 (List.flatMap encI a60.l)] w_) hf66 ?_ ?_ ?_
    · exact ⟨φ37, rfl, f40, f41, f42, f43, rfl, f45, fi36, rfl, rfl, (PHeap.Le.refl _), hS39⟩
    · rintro k62 ⟨a59, a60, x61⟩ xx72 σ70 W71 hk75 ⟨φ77, fi76, f80, f81, f82, f83, f84, f85, f86, f87, f88, le78, hS79⟩ hx73
      try dsimp only at hx73
      have c89 : Hid ((↑k62 : Int) < (↑p1.length : Int)) := Hid.mk (lp_lt0 hk75)
      replace hk75 := Hid.mk hk75
      have hi90 : Hid (w64 ((↑k62 : Int) + 1) = (↑(k62 + 1) : Int)) := Hid.mk (by have h1 := hle65.out; have h2 := c89.out; rw [w64_in] <;> omega)
      refine CK.seq ?_
      refine CK.reg (ks := []) (.fl 0 (.nil)) rfl ?_
      refine OKS.r rfl rfl rfl rfl (fun _ => Runs.lss rfl fi76 f88) ?_
      refine OKS.e ?_
      refine thenQ_n ?_
      refine CK.seq ?_
      refine CK.condT (decT c89.out) ?_
      refine CK.skip ?_
      refine thenQ_n ?_
      obtain ⟨⟨a91, a92, x93⟩, hx95, hm96⟩ := bnd hx73
      try dsimp only at hm96
      refine CK.cut (fun σ_ w_ => ∃ (φ_ : PHeap), σ_ 0 = .int .i64 p0 ∧ σ_ 1 = .slice pA1 p1.length pc1 ∧ σ_ 5 = .pointer (some ⟨b2, 0, none⟩) ∧ σ_ 6 = .pointer (some ⟨b7, 0, none⟩) ∧ σ_ 7 = .int .i64 x93 ∧ σ_ 14 = .int .i64 (w64 (p0 + 2)) ∧ σ_ 15 = .int .i64 (↑k25 : Int) ∧ σ_ 17 = .slice pA1 p1.length pc1 ∧ σ_ 18 = .int .i64 (↑p1.length : Int) ∧ σ_ 19 = .int .i64 (↑k62 : Int) ∧ PHeap.Le φ77 φ_ ∧ St ⟨w, [], φ⟩ φ_ [.blk b7 135 (List.flatMap encI a91.l), .blk b2 135 (List.flatMap encI a92.l)] w_) ?_ ?_
      · refine CK.block ?_
        refine CK.seq ?_
        refine CK.reg (ks := []) (.fl 0 (.fl 1 (.fl 2 (.fx 3 (.fl 4 (.fx 5 (.nil) .stop)) .stop)))) rfl ?_
        refine OKS.r rfl rfl rfl rfl (fun _ => Runs.mv rfl fi76) ?_
        obtain ⟨x97, h98, hm99⟩ := bnd hx95
        have h100 := ha0.le le38
        have h101 := h100.le le78
        obtain ⟨b102, off103, vs106, hA104, hC105, hr107⟩ := h101.el (idx_get h98)
        obtain ⟨pv108, rfl, h109⟩ := hr107
        replace hC105 : Cl φ77 b102 (off103 + k62 * 5) [.int .i64 x97.Step.Kind, .int .i64 x97.Step.Index, .int .i64 x97.from_, .int .i64 x97.to_, pv108] := hC105
        refine OKS.r rfl rfl rfl rfl (fun _ => Runs.iaN rfl f87 hA104 fi76 Try.runUnderlying142 Try.sizeOf189 (idx_lt h98)) ?_
        refine OKS.m rfl rfl rfl rfl (hS79.ldCA (f := 0) hC105 rfl rfl Try.isAgg189 Try.sizeOf189 (us := [.int .i64 x97.Step.Kind, .int .i64 x97.Step.Index, .int .i64 x97.from_, .int .i64 x97.to_, pv108]) rfl rfl) rfl ?_
        refine OKS.alloc (cs := [.int .i64 0, .int .i64 0, .int .i64 0, .int .i64 0, .nilFunc]) rfl rfl rfl rfl rfl Try.zeroValue189 rfl hS79 ?_
        intro W110 b111 hS112
        refine OKS.r rfl rfl rfl rfl (fun _ => Runs.as rfl rfl) ?_
        obtain ⟨fid114, fst115, cap116, he117, _⟩ := id h109
        subst he117
        refine OKS.st (j := 0) (vs := [.int .i64 x97.Step.Kind, .int .i64 x97.Step.Index, .int .i64 x97.from_, .int .i64 x97.to_, (.func (.func fid114) (List.toArray fst115) (List.toArray cap116))]) rfl rfl rfl rfl hS112 rfl rfl rfl rfl Try.sizeOf189 (Nat.le_of_ble_eq_true rfl) rfl rfl rfl ?_
        intro W118 hS119
        have hS120 : St ⟨w, [], φ⟩ φ77 [.blk b111 189 [.int .i64 x97.Step.Kind, .int .i64 x97.Step.Index, .int .i64 x97.from_, .int .i64 x97.to_, (.func (.func fid114) (List.toArray fst115) (List.toArray cap116))], .blk b7 135 (List.flatMap encI a59.l), .blk b2 135 (List.flatMap encI a60.l)] W118 := hS119
        refine OKS.e ?_
        refine thenQ_n ?_
        refine CK.seq ?_
        refine CK.anyOrd Try.mixed [3, 1, 3, 1, 3, 1, 2, 3, 3, 1, 3, 1, 3] (.fl 0 (.fl 1 (.fl 2 (.fl 3 (.fl 4 (.fl 5 (.fl 8 (.fl 9 (.fl 10 (.fl 11 (.fx 6 (.fl 7 (.fl 12 (.nil))) .stop))))))))))) (by kernel_rfl) ?_
        have hS121 := hS120.drew
        generalize hw_W122 : ({ W118 with drawn := W118.drawn + 1 } : World) = W122 at hS121 ⊢
        refine OKS.r rfl rfl rfl rfl (fun _ => Runs.fa rfl rfl Try.runUnderlying189 rfl Try.sizeOf3) ?_
        refine OKS.m rfl rfl rfl rfl (hS121.ldB (j := 0) rfl rfl rfl Try.isAgg3 (v := .int .i64 x97.from_) rfl) rfl ?_
        obtain ⟨_, h123, hm124⟩ := bnd hm99
        refine OKS.r rfl rfl rfl rfl (fun _ => Runs.iaA rfl f82 rfl Try.runUnderlying135 Try.sizeOf3 (chk_lo h123) (chk_hi h123)) ?_
        have hg125 := Arr.at_ a60 (k := x97.from_.toNat) (by have hz0 := chk_lt h123; omega)
        refine OKS.m rfl rfl rfl rfl (hS121.ldB (j := 2) rfl rfl rfl Try.isAgg3 (flatMap_cell (sz := 1) (fun _ => rfl) _ _ 0 _ hg125 (by omega) rfl)) rfl ?_
        refine OKS.r rfl rfl rfl rfl (fun _ => Runs.fa rfl rfl Try.runUnderlying189 rfl Try.sizeOf187) ?_
        refine OKS.m rfl rfl rfl rfl (hS121.ldB (j := 0) rfl rfl rfl Try.isAgg187 (v := (.func (.func fid114) (List.toArray fst115) (List.toArray cap116))) rfl) rfl ?_
        refine OKS.r rfl rfl rfl rfl (fun _ => Runs.fa rfl rfl Try.runUnderlying189 rfl Try.sizeOf3) ?_
        refine OKS.m rfl rfl rfl rfl (hS121.ldB (j := 0) rfl rfl rfl Try.isAgg3 (v := .int .i64 x97.to_) rfl) rfl ?_
        obtain ⟨_, h126, hm127⟩ := bnd hm124
        refine OKS.r rfl rfl rfl rfl (fun _ => Runs.iaA rfl f82 rfl Try.runUnderlying135 Try.sizeOf3 (chk_lo h126) (chk_hi h126)) ?_
        have hg128 := Arr.at_ a60 (k := x97.to_.toNat) (by have hz0 := chk_lt h126; omega)
        refine OKS.m rfl rfl rfl rfl (hS121.ldB (j := 2) rfl rfl rfl Try.isAgg3 (flatMap_cell (sz := 1) (fun _ => rfl) _ _ 0 _ hg128 (by omega) rfl)) rfl ?_
        obtain ⟨x129, h130, hm131⟩ := bnd hm127
        refine OKS.callV (a := ()) rfl rfl rfl rfl rfl rfl mapnil hS121 h109 rfl h130 ?_
        rintro φ132 L133 v134 W135 le136 hS137 ⟨rfl, rfl⟩
        have hS138 : St ⟨w, [], φ⟩ φ132 [.blk b111 189 [.int .i64 x97.Step.Kind, .int .i64 x97.Step.Index, .int .i64 x97.from_, .int .i64 x97.to_, (.func (.func fid114) (List.toArray fst115) (List.toArray cap116))], .blk b7 135 (List.flatMap encI a59.l), .blk b2 135 (List.flatMap encI a60.l)] W135 := hS137
        refine OKS.r rfl rfl rfl rfl (fun _ => Runs.addw rfl rfl rfl) ?_
        refine OKS.r rfl rfl rfl rfl (fun _ => Runs.lss rfl rfl rfl) ?_
        refine OKS.e ?_
        refine thenQ_n ?_
        by_cases c139 : (w64 ((a60.get x97.from_.toNat) + x129)) < (a60.get x97.to_.toNat)
        · have hm140 := hm131; rw [if_pos c139] at hm140; replace c139 := Hid.mk c139
          refine CK.condT (decT c139.out) ?_
          obtain ⟨x142, h143, hm161⟩ := bnd hm140
          refine CK.anyOrd Try.mixed [3, 1, 3, 2, 3, 1, 3, 1, 3, 1, 2, 3, 3, 3, 2, 3, 0, 3, 0, 3] (.fl 0 (.fl 1 (.fl 2 (.fl 4 (.fl 5 (.fl 6 (.fl 7 (.fl 8 (.fl 9 (.fl 12 (.fl 13 (.fx 3 (.fx 10 (.fl 11 (.fl 15 (.fx 14 (.fx 16 (.fl 17 (.fx 18 (.fl 19 (.nil)) (.stop))) (.stop)) (.fx 16 (.fl 17 (.fx 14 (.fx 18 (.fl 19 (.nil)) (.stop)) (.fx 18 (.fx 14 (.fl 19 (.nil)) (.stop)) (.stop)))) (.stop))))) (.fx 14 (.fx 10 (.fl 11 (.fl 15 (.fx 16 (.fl 17 (.fx 18 (.fl 19 (.nil)) (.stop))) (.stop)))) (.stop)) (.stop))) (.fx 10 (.fl 11 (.fl 15 (.fx 3 (.fx 14 (.fx 16 (.fl 17 (.fx 18 (.fl 19 (.nil)) (.stop))) (.stop)) (.fx 16 (.fl 17 (.fx 14 (.fx 18 (.fl 19 (.nil)) (.stop)) (.fx 18 (.fx 14 (.fl 19 (.nil)) (.stop)) (.stop)))) (.stop))) (.fx 14 (.fx 3 (.fx 16 (.fl 17 (.fx 18 (.fl 19 (.nil)) (.stop))) (.stop)) (.fx 16 (.fx 3 (.fl 17 (.fx 18 (.fl 19 (.nil)) (.stop))) (.stop)) (.stop))) (.fx 16 (.fx 3 (.fl 17 (.fx 14 (.fx 18 (.fl 19 (.nil)) (.stop)) (.fx 18 (.fx 14 (.fl 19 (.nil)) (.stop)) (.stop)))) (.fx 14 (.fx 3 (.fl 17 (.fx 18 (.fl 19 (.nil)) (.stop))) (.stop)) (.stop))) (.stop)))))) (.fx 14 (.fx 3 (.fx 10 (.fl 11 (.fl 15 (.fx 16 (.fl 17 (.fx 18 (.fl 19 (.nil)) (.stop))) (.stop)))) (.stop)) (.fx 10 (.fl 11 (.fl 15 (.fx 3 (.fx 16 (.fl 17 (.fx 18 (.fl 19 (.nil)) (.stop))) (.stop)) (.fx 16 (.fx 3 (.fl 17 (.fx 18 (.fl 19 (.nil)) (.stop))) (.stop)) (.stop))))) (.stop))) (.stop))))))))))))))) (by kernel_rfl) ?_
          have hS162 := hS138.drew
          generalize hw_W163 : ({ W135 with drawn := W135.drawn + 1 } : World) = W163 at hS162 ⊢
          refine OKS.r rfl rfl rfl rfl (fun _ => Runs.fa rfl rfl Try.runUnderlying189 rfl Try.sizeOf3) ?_
          refine OKS.m rfl rfl rfl rfl (hS162.ldB (j := 0) rfl rfl rfl Try.isAgg3 (v := .int .i64 x97.to_) rfl) rfl ?_
          refine OKS.r rfl rfl rfl rfl (fun _ => Runs.fa rfl rfl Try.runUnderlying189 rfl Try.sizeOf3) ?_
          refine OKS.r rfl rfl rfl rfl (fun _ => Runs.fa rfl rfl Try.runUnderlying189 rfl Try.sizeOf3) ?_
          refine OKS.m rfl rfl rfl rfl (hS162.ldB (j := 0) rfl rfl rfl Try.isAgg3 (v := .int .i64 x97.from_) rfl) rfl ?_
          refine OKS.r rfl rfl rfl rfl (fun _ => Runs.iaA rfl f82 rfl Try.runUnderlying135 Try.sizeOf3 (chk_lo h123) (chk_hi h123)) ?_
          have hg164 := Arr.at_ a60 (k := x97.from_.toNat) (by have hz0 := chk_lt h123; omega)
          refine OKS.m rfl rfl rfl rfl (hS162.ldB (j := 2) rfl rfl rfl Try.isAgg3 (flatMap_cell (sz := 1) (fun _ => rfl) _ _ 0 _ hg164 (by omega) rfl)) rfl ?_
          refine OKS.r rfl rfl rfl rfl (fun _ => Runs.fa rfl rfl Try.runUnderlying189 rfl Try.sizeOf187) ?_
          refine OKS.m rfl rfl rfl rfl (hS162.ldB (j := 0) rfl rfl rfl Try.isAgg187 (v := (.func (.func fid114) (List.toArray fst115) (List.toArray cap116))) rfl) rfl ?_
          refine OKS.r rfl rfl rfl rfl (fun _ => Runs.mv rfl rfl) ?_
          refine OKS.r rfl rfl rfl rfl (fun _ => Runs.fa rfl rfl Try.runUnderlying189 rfl Try.sizeOf3) ?_
          refine OKS.both ?_ ?_
          · refine OKS.mx2 rfl rfl rfl rfl (hS162.ldB (j := 0) rfl rfl rfl Try.isAgg3 (v := .int .i64 x97.to_) rfl) ?_
            refine OKS.both ?_ ?_
            · have h172 := h109.le le136
              refine OKS.callV (a := ()) rfl rfl rfl rfl rfl rfl mapnil hS162 h172 rfl h143 ?_
              rintro φ166 L167 v168 W169 le170 hS171 ⟨rfl, rfl⟩
              have hS173 : St ⟨w, [], φ⟩ φ166 [.blk b111 189 [.int .i64 x97.Step.Kind, .int .i64 x97.Step.Index, .int .i64 x97.from_, .int .i64 x97.to_, (.func (.func fid114) (List.toArray fst115) (List.toArray cap116))], .blk b7 135 (List.flatMap encI a59.l), .blk b2 135 (List.flatMap encI a60.l)] W169 := hS171
              refine OKS.r rfl rfl rfl rfl (fun _ => Runs.addw rfl rfl rfl) ?_
              refine OKS.r rfl rfl rfl rfl (fun _ => Runs.iaA rfl f82 rfl Try.runUnderlying135 Try.sizeOf3 (chk_lo h126) (chk_hi h126)) ?_
              refine OKS.both ?_ ?_
              · refine OKS.mx2 rfl rfl rfl rfl (hS173.ldB (j := 0) rfl rfl rfl Try.isAgg3 (v := .int .i64 x97.to_) rfl) ?_
                have hg174 := Arr.at_ a60 (k := x97.to_.toNat) (by have hz0 := chk_lt h126; omega)
                refine OKS.st (j := 2) (vs := [.int .i64 (w64 ((a60.get x97.from_.toNat) + x142))]) (cs' := List.flatMap encI (a60.set x97.to_.toNat (w64 ((a60.get x97.from_.toNat) + x142))).l) rfl rfl rfl rfl hS173 rfl rfl rfl rfl Try.sizeOf3 (by have hz0 := chk_lt h126; simp only [List.length_append, List.length_cons, List.length_nil, whole_len (f := encI) (sz := 1) (N := 9) a60 (fun _ => rfl) rfl]; omega) rfl (setN_at (sz := 1) (fo := 0) (fun _ => rfl) _ _ _ _ hg174 (by omega) (Nat.le_of_ble_eq_true rfl) rfl) rfl ?_
                intro W175 hS176
                have hS177 : St ⟨w, [], φ⟩ φ166 [.blk b111 189 [.int .i64 x97.Step.Kind, .int .i64 x97.Step.Index, .int .i64 x97.from_, .int .i64 x97.to_, (.func (.func fid114) (List.toArray fst115) (List.toArray cap116))], .blk b7 135 (List.flatMap encI a59.l), .blk b2 135 (List.flatMap encI (a60.set x97.to_.toNat (w64 ((a60.get x97.from_.toNat) + x142))).l)] W175 := hS176
                refine OKS.r rfl rfl rfl rfl (fun _ => Runs.iaA rfl f83 rfl Try.runUnderlying135 Try.sizeOf3 (chk_lo h126) (chk_hi h126)) ?_
                have hg178 := Arr.at_ a59 (k := x97.to_.toNat) (by have hz0 := chk_lt h126; omega)
                refine OKS.st (j := 1) (vs := [.int .i64 (↑k62 : Int)]) (cs' := List.flatMap encI (a59.set x97.to_.toNat (↑k62 : Int)).l) rfl rfl rfl rfl hS177 rfl rfl rfl rfl Try.sizeOf3 (by have hz0 := chk_lt h126; simp only [List.length_append, List.length_cons, List.length_nil, whole_len (f := encI) (sz := 1) (N := 9) a59 (fun _ => rfl) rfl]; omega) rfl (setN_at (sz := 1) (fo := 0) (fun _ => rfl) _ _ _ _ hg178 (by omega) (Nat.le_of_ble_eq_true rfl) rfl) rfl ?_
                intro W179 hS180
                have hS181 : St ⟨w, [], φ⟩ φ166 [.blk b111 189 [.int .i64 x97.Step.Kind, .int .i64 x97.Step.Index, .int .i64 x97.from_, .int .i64 x97.to_, (.func (.func fid114) (List.toArray fst115) (List.toArray cap116))], .blk b7 135 (List.flatMap encI (a59.set x97.to_.toNat (↑k62 : Int)).l), .blk b2 135 (List.flatMap encI (a60.set x97.to_.toNat (w64 ((a60.get x97.from_.toNat) + x142))).l)] W179 := hS180
                refine OKS.r rfl rfl rfl rfl (fun _ => Runs.as rfl rfl) ?_
                refine OKS.e ?_
                refine blockQ_n ?_
                cases hm161
                exact thenQ_n ⟨rfl, ⟨φ166, f80, f81, f82, f83, rfl, f85, f86, f87, f88, fi76, (le136.trans le170), (hS181.pick [1, 2] _ (by decide) rfl)⟩⟩
              · have hg185 := Arr.at_ a60 (k := x97.to_.toNat) (by have hz0 := chk_lt h126; omega)
                refine OKS.st (j := 2) (vs := [.int .i64 (w64 ((a60.get x97.from_.toNat) + x142))]) (cs' := List.flatMap encI (a60.set x97.to_.toNat (w64 ((a60.get x97.from_.toNat) + x142))).l) rfl rfl rfl rfl hS173 rfl rfl rfl rfl Try.sizeOf3 (by have hz0 := chk_lt h126; simp only [List.length_append, List.length_cons, List.length_nil, whole_len (f := encI) (sz := 1) (N := 9) a60 (fun _ => rfl) rfl]; omega) rfl (setN_at (sz := 1) (fo := 0) (fun _ => rfl) _ _ _ _ hg185 (by omega) (Nat.le_of_ble_eq_true rfl) rfl) rfl ?_
                intro W186 hS187
                have hS188 : St ⟨w, [], φ⟩ φ166 [.blk b111 189 [.int .i64 x97.Step.Kind, .int .i64 x97.Step.Index, .int .i64 x97.from_, .int .i64 x97.to_, (.func (.func fid114) (List.toArray fst115) (List.toArray cap116))], .blk b7 135 (List.flatMap encI a59.l), .blk b2 135 (List.flatMap encI (a60.set x97.to_.toNat (w64 ((a60.get x97.from_.toNat) + x142))).l)] W186 := hS187
                refine OKS.r rfl rfl rfl rfl (fun _ => Runs.iaA rfl f83 rfl Try.runUnderlying135 Try.sizeOf3 (chk_lo h126) (chk_hi h126)) ?_
                refine OKS.both ?_ ?_
                · refine OKS.mx2 rfl rfl rfl rfl (hS188.ldB (j := 0) rfl rfl rfl Try.isAgg3 (v := .int .i64 x97.to_) rfl) ?_
                  have hg189 := Arr.at_ a59 (k := x97.to_.toNat) (by have hz0 := chk_lt h126; omega)
                  refine OKS.st (j := 1) (vs := [.int .i64 (↑k62 : Int)]) (cs' := List.flatMap encI (a59.set x97.to_.toNat (↑k62 : Int)).l) rfl rfl rfl rfl hS188 rfl rfl rfl rfl Try.sizeOf3 (by have hz0 := chk_lt h126; simp only [List.length_append, List.length_cons, List.length_nil, whole_len (f := encI) (sz := 1) (N := 9) a59 (fun _ => rfl) rfl]; omega) rfl (setN_at (sz := 1) (fo := 0) (fun _ => rfl) _ _ _ _ hg189 (by omega) (Nat.le_of_ble_eq_true rfl) rfl) rfl ?_
                  intro W190 hS191
                  have hS192 : St ⟨w, [], φ⟩ φ166 [.blk b111 189 [.int .i64 x97.Step.Kind, .int .i64 x97.Step.Index, .int .i64 x97.from_, .int .i64 x97.to_, (.func (.func fid114) (List.toArray fst115) (List.toArray cap116))], .blk b7 135 (List.flatMap encI (a59.set x97.to_.toNat (↑k62 : Int)).l), .blk b2 135 (List.flatMap encI (a60.set x97.to_.toNat (w64 ((a60.get x97.from_.toNat) + x142))).l)] W190 := hS191
                  refine OKS.r rfl rfl rfl rfl (fun _ => Runs.as rfl rfl) ?_
                  refine OKS.e ?_
                  refine blockQ_n ?_
                  cases hm161
                  exact thenQ_n ⟨rfl, ⟨φ166, f80, f81, f82, f83, rfl, f85, f86, f87, f88, fi76, (le136.trans le170), (hS192.pick [1, 2] _ (by decide) rfl)⟩⟩
                · have hg196 := Arr.at_ a59 (k := x97.to_.toNat) (by have hz0 := chk_lt h126; omega)
                  refine OKS.st (j := 1) (vs := [.int .i64 (↑k62 : Int)]) (cs' := List.flatMap encI (a59.set x97.to_.toNat (↑k62 : Int)).l) rfl rfl rfl rfl hS188 rfl rfl rfl rfl Try.sizeOf3 (by have hz0 := chk_lt h126; simp only [List.length_append, List.length_cons, List.length_nil, whole_len (f := encI) (sz := 1) (N := 9) a59 (fun _ => rfl) rfl]; omega) rfl (setN_at (sz := 1) (fo := 0) (fun _ => rfl) _ _ _ _ hg196 (by omega) (Nat.le_of_ble_eq_true rfl) rfl) rfl ?_
                  intro W197 hS198
                  have hS199 : St ⟨w, [], φ⟩ φ166 [.blk b111 189 [.int .i64 x97.Step.Kind, .int .i64 x97.Step.Index, .int .i64 x97.from_, .int .i64 x97.to_, (.func (.func fid114) (List.toArray fst115) (List.toArray cap116))], .blk b7 135 (List.flatMap encI (a59.set x97.to_.toNat (↑k62 : Int)).l), .blk b2 135 (List.flatMap encI (a60.set x97.to_.toNat (w64 ((a60.get x97.from_.toNat) + x142))).l)] W197 := hS198
                  refine OKS.mx2 rfl rfl rfl rfl (hS199.ldB (j := 0) rfl rfl rfl Try.isAgg3 (v := .int .i64 x97.to_) rfl) ?_
                  refine OKS.r rfl rfl rfl rfl (fun _ => Runs.as rfl rfl) ?_
                  refine OKS.e ?_
                  refine blockQ_n ?_
                  cases hm161
                  exact thenQ_n ⟨rfl, ⟨φ166, f80, f81, f82, f83, rfl, f85, f86, f87, f88, fi76, (le136.trans le170), (hS199.pick [1, 2] _ (by decide) rfl)⟩⟩
            · refine OKS.mx2 rfl rfl rfl rfl (hS162.ldB (j := 0) rfl rfl rfl Try.isAgg3 (v := .int .i64 x97.to_) rfl) ?_
              have h210 := h109.le le136
              refine OKS.callV (a := ()) rfl rfl rfl rfl rfl rfl mapnil hS162 h210 rfl h143 ?_
              rintro φ204 L205 v206 W207 le208 hS209 ⟨rfl, rfl⟩
              have hS211 : St ⟨w, [], φ⟩ φ204 [.blk b111 189 [.int .i64 x97.Step.Kind, .int .i64 x97.Step.Index, .int .i64 x97.from_, .int .i64 x97.to_, (.func (.func fid114) (List.toArray fst115) (List.toArray cap116))], .blk b7 135 (List.flatMap encI a59.l), .blk b2 135 (List.flatMap encI a60.l)] W207 := hS209
              refine OKS.r rfl rfl rfl rfl (fun _ => Runs.addw rfl rfl rfl) ?_
              refine OKS.r rfl rfl rfl rfl (fun _ => Runs.iaA rfl f82 rfl Try.runUnderlying135 Try.sizeOf3 (chk_lo h126) (chk_hi h126)) ?_
              have hg212 := Arr.at_ a60 (k := x97.to_.toNat) (by have hz0 := chk_lt h126; omega)
              refine OKS.st (j := 2) (vs := [.int .i64 (w64 ((a60.get x97.from_.toNat) + x142))]) (cs' := List.flatMap encI (a60.set x97.to_.toNat (w64 ((a60.get x97.from_.toNat) + x142))).l) rfl rfl rfl rfl hS211 rfl rfl rfl rfl Try.sizeOf3 (by have hz0 := chk_lt h126; simp only [List.length_append, List.length_cons, List.length_nil, whole_len (f := encI) (sz := 1) (N := 9) a60 (fun _ => rfl) rfl]; omega) rfl (setN_at (sz := 1) (fo := 0) (fun _ => rfl) _ _ _ _ hg212 (by omega) (Nat.le_of_ble_eq_true rfl) rfl) rfl ?_
              intro W213 hS214
              have hS215 : St ⟨w, [], φ⟩ φ204 [.blk b111 189 [.int .i64 x97.Step.Kind, .int .i64 x97.Step.Index, .int .i64 x97.from_, .int .i64 x97.to_, (.func (.func fid114) (List.toArray fst115) (List.toArray cap116))], .blk b7 135 (List.flatMap encI a59.l), .blk b2 135 (List.flatMap encI (a60.set x97.to_.toNat (w64 ((a60.get x97.from_.toNat) + x142))).l)] W213 := hS214
              refine OKS.r rfl rfl rfl rfl (fun _ => Runs.iaA rfl f83 rfl Try.runUnderlying135 Try.sizeOf3 (chk_lo h126) (chk_hi h126)) ?_
              have hg216 := Arr.at_ a59 (k := x97.to_.toNat) (by have hz0 := chk_lt h126; omega)
              refine OKS.st (j := 1) (vs := [.int .i64 (↑k62 : Int)]) (cs' := List.flatMap encI (a59.set x97.to_.toNat (↑k62 : Int)).l) rfl rfl rfl rfl hS215 rfl rfl rfl rfl Try.sizeOf3 (by have hz0 := chk_lt h126; simp only [List.length_append, List.length_cons, List.length_nil, whole_len (f := encI) (sz := 1) (N := 9) a59 (fun _ => rfl) rfl]; omega) rfl (setN_at (sz := 1) (fo := 0) (fun _ => rfl) _ _ _ _ hg216 (by omega) (Nat.le_of_ble_eq_true rfl) rfl) rfl ?_
              intro W217 hS218
              have hS219 : St ⟨w, [], φ⟩ φ204 [.blk b111 189 [.int .i64 x97.Step.Kind, .int .i64 x97.Step.Index, .int .i64 x97.from_, .int .i64 x97.to_, (.func (.func fid114) (List.toArray fst115) (List.toArray cap116))], .blk b7 135 (List.flatMap encI (a59.set x97.to_.toNat (↑k62 : Int)).l), .blk b2 135 (List.flatMap encI (a60.set x97.to_.toNat (w64 ((a60.get x97.from_.toNat) + x142))).l)] W217 := hS218
              refine OKS.r rfl rfl rfl rfl (fun _ => Runs.as rfl rfl) ?_
              refine OKS.e ?_
              refine blockQ_n ?_
              cases hm161
              exact thenQ_n ⟨rfl, ⟨φ204, f80, f81, f82, f83, rfl, f85, f86, f87, f88, fi76, (le136.trans le208), (hS219.pick [1, 2] _ (by decide) rfl)⟩⟩
          refine OKS.both ?_ ?_
          · have h230 := h109.le le136
            refine OKS.callV (a := ()) rfl rfl rfl rfl rfl rfl mapnil hS162 h230 rfl h143 ?_
            rintro φ224 L225 v226 W227 le228 hS229 ⟨rfl, rfl⟩
            have hS231 : St ⟨w, [], φ⟩ φ224 [.blk b111 189 [.int .i64 x97.Step.Kind, .int .i64 x97.Step.Index, .int .i64 x97.from_, .int .i64 x97.to_, (.func (.func fid114) (List.toArray fst115) (List.toArray cap116))], .blk b7 135 (List.flatMap encI a59.l), .blk b2 135 (List.flatMap encI a60.l)] W227 := hS229
            refine OKS.r rfl rfl rfl rfl (fun _ => Runs.addw rfl rfl rfl) ?_
            refine OKS.r rfl rfl rfl rfl (fun _ => Runs.iaA rfl f82 rfl Try.runUnderlying135 Try.sizeOf3 (chk_lo h126) (chk_hi h126)) ?_
            refine OKS.both ?_ ?_
            · refine OKS.mx2 rfl rfl rfl rfl (hS231.ldB (j := 0) rfl rfl rfl Try.isAgg3 (v := .int .i64 x97.to_) rfl) ?_
              refine OKS.both ?_ ?_
              · refine OKS.mx2 rfl rfl rfl rfl (hS231.ldB (j := 0) rfl rfl rfl Try.isAgg3 (v := .int .i64 x97.to_) rfl) ?_
                have hg232 := Arr.at_ a60 (k := x97.to_.toNat) (by have hz0 := chk_lt h126; omega)
                refine OKS.st (j := 2) (vs := [.int .i64 (w64 ((a60.get x97.from_.toNat) + x142))]) (cs' := List.flatMap encI (a60.set x97.to_.toNat (w64 ((a60.get x97.from_.toNat) + x142))).l) rfl rfl rfl rfl hS231 rfl rfl rfl rfl Try.sizeOf3 (by have hz0 := chk_lt h126; simp only [List.length_append, List.length_cons, List.length_nil, whole_len (f := encI) (sz := 1) (N := 9) a60 (fun _ => rfl) rfl]; omega) rfl (setN_at (sz := 1) (fo := 0) (fun _ => rfl) _ _ _ _ hg232 (by omega) (Nat.le_of_ble_eq_true rfl) rfl) rfl ?_
                intro W233 hS234
                have hS235 : St ⟨w, [], φ⟩ φ224 [.blk b111 189 [.int .i64 x97.Step.Kind, .int .i64 x97.Step.Index, .int .i64 x97.from_, .int .i64 x97.to_, (.func (.func fid114) (List.toArray fst115) (List.toArray cap116))], .blk b7 135 (List.flatMap encI a59.l), .blk b2 135 (List.flatMap encI (a60.set x97.to_.toNat (w64 ((a60.get x97.from_.toNat) + x142))).l)] W233 := hS234
                refine OKS.r rfl rfl rfl rfl (fun _ => Runs.iaA rfl f83 rfl Try.runUnderlying135 Try.sizeOf3 (chk_lo h126) (chk_hi h126)) ?_
                have hg236 := Arr.at_ a59 (k := x97.to_.toNat) (by have hz0 := chk_lt h126; omega)
                refine OKS.st (j := 1) (vs := [.int .i64 (↑k62 : Int)]) (cs' := List.flatMap encI (a59.set x97.to_.toNat (↑k62 : Int)).l) rfl rfl rfl rfl hS235 rfl rfl rfl rfl Try.sizeOf3 (by have hz0 := chk_lt h126; simp only [List.length_append, List.length_cons, List.length_nil, whole_len (f := encI) (sz := 1) (N := 9) a59 (fun _ => rfl) rfl]; omega) rfl (setN_at (sz := 1) (fo := 0) (fun _ => rfl) _ _ _ _ hg236 (by omega) (Nat.le_of_ble_eq_true rfl) rfl) rfl ?_
                intro W237 hS238
                have hS239 : St ⟨w, [], φ⟩ φ224 [.blk b111 189 [.int .i64 x97.Step.Kind, .int .i64 x97.Step.Index, .int .i64 x97.from_, .int .i64 x97.to_, (.func (.func fid114) (List.toArray fst115) (List.toArray cap116))], .blk b7 135 (List.flatMap encI (a59.set x97.to_.toNat (↑k62 : Int)).l), .blk b2 135 (List.flatMap encI (a60.set x97.to_.toNat (w64 ((a60.get x97.from_.toNat) + x142))).l)] W237 := hS238
                refine OKS.r rfl rfl rfl rfl (fun _ => Runs.as rfl rfl) ?_
                refine OKS.e ?_
                refine blockQ_n ?_
                cases hm161
                exact thenQ_n ⟨rfl, ⟨φ224, f80, f81, f82, f83, rfl, f85, f86, f87, f88, fi76, (le136.trans le228), (hS239.pick [1, 2] _ (by decide) rfl)⟩⟩
              · have hg243 := Arr.at_ a60 (k := x97.to_.toNat) (by have hz0 := chk_lt h126; omega)
                refine OKS.st (j := 2) (vs := [.int .i64 (w64 ((a60.get x97.from_.toNat) + x142))]) (cs' := List.flatMap encI (a60.set x97.to_.toNat (w64 ((a60.get x97.from_.toNat) + x142))).l) rfl rfl rfl rfl hS231 rfl rfl rfl rfl Try.sizeOf3 (by have hz0 := chk_lt h126; simp only [List.length_append, List.length_cons, List.length_nil, whole_len (f := encI) (sz := 1) (N := 9) a60 (fun _ => rfl) rfl]; omega) rfl (setN_at (sz := 1) (fo := 0) (fun _ => rfl) _ _ _ _ hg243 (by omega) (Nat.le_of_ble_eq_true rfl) rfl) rfl ?_
                intro W244 hS245
                have hS246 : St ⟨w, [], φ⟩ φ224 [.blk b111 189 [.int .i64 x97.Step.Kind, .int .i64 x97.Step.Index, .int .i64 x97.from_, .int .i64 x97.to_, (.func (.func fid114) (List.toArray fst115) (List.toArray cap116))], .blk b7 135 (List.flatMap encI a59.l), .blk b2 135 (List.flatMap encI (a60.set x97.to_.toNat (w64 ((a60.get x97.from_.toNat) + x142))).l)] W244 := hS245
                refine OKS.r rfl rfl rfl rfl (fun _ => Runs.iaA rfl f83 rfl Try.runUnderlying135 Try.sizeOf3 (chk_lo h126) (chk_hi h126)) ?_
                refine OKS.both ?_ ?_
                · refine OKS.mx2 rfl rfl rfl rfl (hS246.ldB (j := 0) rfl rfl rfl Try.isAgg3 (v := .int .i64 x97.to_) rfl) ?_
                  have hg247 := Arr.at_ a59 (k := x97.to_.toNat) (by have hz0 := chk_lt h126; omega)
                  refine OKS.st (j := 1) (vs := [.int .i64 (↑k62 : Int)]) (cs' := List.flatMap encI (a59.set x97.to_.toNat (↑k62 : Int)).l) rfl rfl rfl rfl hS246 rfl rfl rfl rfl Try.sizeOf3 (by have hz0 := chk_lt h126; simp only [List.length_append, List.length_cons, List.length_nil, whole_len (f := encI) (sz := 1) (N := 9) a59 (fun _ => rfl) rfl]; omega) rfl (setN_at (sz := 1) (fo := 0) (fun _ => rfl) _ _ _ _ hg247 (by omega) (Nat.le_of_ble_eq_true rfl) rfl) rfl ?_
                  intro W248 hS249
                  have hS250 : St ⟨w, [], φ⟩ φ224 [.blk b111 189 [.int .i64 x97.Step.Kind, .int .i64 x97.Step.Index, .int .i64 x97.from_, .int .i64 x97.to_, (.func (.func fid114) (List.toArray fst115) (List.toArray cap116))], .blk b7 135 (List.flatMap encI (a59.set x97.to_.toNat (↑k62 : Int)).l), .blk b2 135 (List.flatMap encI (a60.set x97.to_.toNat (w64 ((a60.get x97.from_.toNat) + x142))).l)] W248 := hS249
                  refine OKS.r rfl rfl rfl rfl (fun _ => Runs.as rfl rfl) ?_
                  refine OKS.e ?_
                  refine blockQ_n ?_
                  cases hm161
                  exact thenQ_n ⟨rfl, ⟨φ224, f80, f81, f82, f83, rfl, f85, f86, f87, f88, fi76, (le136.trans le228), (hS250.pick [1, 2] _ (by decide) rfl)⟩⟩
                · have hg254 := Arr.at_ a59 (k := x97.to_.toNat) (by have hz0 := chk_lt h126; omega)
                  refine OKS.st (j := 1) (vs := [.int .i64 (↑k62 : Int)]) (cs' := List.flatMap encI (a59.set x97.to_.toNat (↑k62 : Int)).l) rfl rfl rfl rfl hS246 rfl rfl rfl rfl Try.sizeOf3 (by have hz0 := chk_lt h126; simp only [List.length_append, List.length_cons, List.length_nil, whole_len (f := encI) (sz := 1) (N := 9) a59 (fun _ => rfl) rfl]; omega) rfl (setN_at (sz := 1) (fo := 0) (fun _ => rfl) _ _ _ _ hg254 (by omega) (Nat.le_of_ble_eq_true rfl) rfl) rfl ?_
                  intro W255 hS256
                  have hS257 : St ⟨w, [], φ⟩ φ224 [.blk b111 189 [.int .i64 x97.Step.Kind, .int .i64 x97.Step.Index, .int .i64 x97.from_, .int .i64 x97.to_, (.func (.func fid114) (List.toArray fst115) (List.toArray cap116))], .blk b7 135 (List.flatMap encI (a59.set x97.to_.toNat (↑k62 : Int)).l), .blk b2 135 (List.flatMap encI (a60.set x97.to_.toNat (w64 ((a60.get x97.from_.toNat) + x142))).l)] W255 := hS256
                  refine OKS.mx2 rfl rfl rfl rfl (hS257.ldB (j := 0) rfl rfl rfl Try.isAgg3 (v := .int .i64 x97.to_) rfl) ?_
                  refine OKS.r rfl rfl rfl rfl (fun _ => Runs.as rfl rfl) ?_
                  refine OKS.e ?_
                  refine blockQ_n ?_
                  cases hm161
                  exact thenQ_n ⟨rfl, ⟨φ224, f80, f81, f82, f83, rfl, f85, f86, f87, f88, fi76, (le136.trans le228), (hS257.pick [1, 2] _ (by decide) rfl)⟩⟩
            refine OKS.both ?_ ?_
            · refine OKS.mx2 rfl rfl rfl rfl (hS231.ldB (j := 0) rfl rfl rfl Try.isAgg3 (v := .int .i64 x97.to_) rfl) ?_
              refine OKS.both ?_ ?_
              · refine OKS.mx2 rfl rfl rfl rfl (hS231.ldB (j := 0) rfl rfl rfl Try.isAgg3 (v := .int .i64 x97.to_) rfl) ?_
                have hg261 := Arr.at_ a60 (k := x97.to_.toNat) (by have hz0 := chk_lt h126; omega)
                refine OKS.st (j := 2) (vs := [.int .i64 (w64 ((a60.get x97.from_.toNat) + x142))]) (cs' := List.flatMap encI (a60.set x97.to_.toNat (w64 ((a60.get x97.from_.toNat) + x142))).l) rfl rfl rfl rfl hS231 rfl rfl rfl rfl Try.sizeOf3 (by have hz0 := chk_lt h126; simp only [List.length_append, List.length_cons, List.length_nil, whole_len (f := encI) (sz := 1) (N := 9) a60 (fun _ => rfl) rfl]; omega) rfl (setN_at (sz := 1) (fo := 0) (fun _ => rfl) _ _ _ _ hg261 (by omega) (Nat.le_of_ble_eq_true rfl) rfl) rfl ?_
                intro W262 hS263
                have hS264 : St ⟨w, [], φ⟩ φ224 [.blk b111 189 [.int .i64 x97.Step.Kind, .int .i64 x97.Step.Index, .int .i64 x97.from_, .int .i64 x97.to_, (.func (.func fid114) (List.toArray fst115) (List.toArray cap116))], .blk b7 135 (List.flatMap encI a59.l), .blk b2 135 (List.flatMap encI (a60.set x97.to_.toNat (w64 ((a60.get x97.from_.toNat) + x142))).l)] W262 := hS263
                refine OKS.r rfl rfl rfl rfl (fun _ => Runs.iaA rfl f83 rfl Try.runUnderlying135 Try.sizeOf3 (chk_lo h126) (chk_hi h126)) ?_
                have hg265 := Arr.at_ a59 (k := x97.to_.toNat) (by have hz0 := chk_lt h126; omega)
                refine OKS.st (j := 1) (vs := [.int .i64 (↑k62 : Int)]) (cs' := List.flatMap encI (a59.set x97.to_.toNat (↑k62 : Int)).l) rfl rfl rfl rfl hS264 rfl rfl rfl rfl Try.sizeOf3 (by have hz0 := chk_lt h126; simp only [List.length_append, List.length_cons, List.length_nil, whole_len (f := encI) (sz := 1) (N := 9) a59 (fun _ => rfl) rfl]; omega) rfl (setN_at (sz := 1) (fo := 0) (fun _ => rfl) _ _ _ _ hg265 (by omega) (Nat.le_of_ble_eq_true rfl) rfl) rfl ?_
                intro W266 hS267
                have hS268 : St ⟨w, [], φ⟩ φ224 [.blk b111 189 [.int .i64 x97.Step.Kind, .int .i64 x97.Step.Index, .int .i64 x97.from_, .int .i64 x97.to_, (.func (.func fid114) (List.toArray fst115) (List.toArray cap116))], .blk b7 135 (List.flatMap encI (a59.set x97.to_.toNat (↑k62 : Int)).l), .blk b2 135 (List.flatMap encI (a60.set x97.to_.toNat (w64 ((a60.get x97.from_.toNat) + x142))).l)] W266 := hS267
                refine OKS.r rfl rfl rfl rfl (fun _ => Runs.as rfl rfl) ?_
                refine OKS.e ?_
                refine blockQ_n ?_
                cases hm161
                exact thenQ_n ⟨rfl, ⟨φ224, f80, f81, f82, f83, rfl, f85, f86, f87, f88, fi76, (le136.trans le228), (hS268.pick [1, 2] _ (by decide) rfl)⟩⟩
              · have hg272 := Arr.at_ a60 (k := x97.to_.toNat) (by have hz0 := chk_lt h126; omega)
                refine OKS.st (j := 2) (vs := [.int .i64 (w64 ((a60.get x97.from_.toNat) + x142))]) (cs' := List.flatMap encI (a60.set x97.to_.toNat (w64 ((a60.get x97.from_.toNat) + x142))).l) rfl rfl rfl rfl hS231 rfl rfl rfl rfl Try.sizeOf3 (by have hz0 := chk_lt h126; simp only [List.length_append, List.length_cons, List.length_nil, whole_len (f := encI) (sz := 1) (N := 9) a60 (fun _ => rfl) rfl]; omega) rfl (setN_at (sz := 1) (fo := 0) (fun _ => rfl) _ _ _ _ hg272 (by omega) (Nat.le_of_ble_eq_true rfl) rfl) rfl ?_
                intro W273 hS274
                have hS275 : St ⟨w, [], φ⟩ φ224 [.blk b111 189 [.int .i64 x97.Step.Kind, .int .i64 x97.Step.Index, .int .i64 x97.from_, .int .i64 x97.to_, (.func (.func fid114) (List.toArray fst115) (List.toArray cap116))], .blk b7 135 (List.flatMap encI a59.l), .blk b2 135 (List.flatMap encI (a60.set x97.to_.toNat (w64 ((a60.get x97.from_.toNat) + x142))).l)] W273 := hS274
                refine OKS.mx2 rfl rfl rfl rfl (hS275.ldB (j := 0) rfl rfl rfl Try.isAgg3 (v := .int .i64 x97.to_) rfl) ?_
                refine OKS.r rfl rfl rfl rfl (fun _ => Runs.iaA rfl f83 rfl Try.runUnderlying135 Try.sizeOf3 (chk_lo h126) (chk_hi h126)) ?_
                have hg276 := Arr.at_ a59 (k := x97.to_.toNat) (by have hz0 := chk_lt h126; omega)
                refine OKS.st (j := 1) (vs := [.int .i64 (↑k62 : Int)]) (cs' := List.flatMap encI (a59.set x97.to_.toNat (↑k62 : Int)).l) rfl rfl rfl rfl hS275 rfl rfl rfl rfl Try.sizeOf3 (by have hz0 := chk_lt h126; simp only [List.length_append, List.length_cons, List.length_nil, whole_len (f := encI) (sz := 1) (N := 9) a59 (fun _ => rfl) rfl]; omega) rfl (setN_at (sz := 1) (fo := 0) (fun _ => rfl) _ _ _ _ hg276 (by omega) (Nat.le_of_ble_eq_true rfl) rfl) rfl ?_
                intro W277 hS278
                have hS279 : St ⟨w, [], φ⟩ φ224 [.blk b111 189 [.int .i64 x97.Step.Kind, .int .i64 x97.Step.Index, .int .i64 x97.from_, .int .i64 x97.to_, (.func (.func fid114) (List.toArray fst115) (List.toArray cap116))], .blk b7 135 (List.flatMap encI (a59.set x97.to_.toNat (↑k62 : Int)).l), .blk b2 135 (List.flatMap encI (a60.set x97.to_.toNat (w64 ((a60.get x97.from_.toNat) + x142))).l)] W277 := hS278
                refine OKS.r rfl rfl rfl rfl (fun _ => Runs.as rfl rfl) ?_
                refine OKS.e ?_
                refine blockQ_n ?_
                cases hm161
                exact thenQ_n ⟨rfl, ⟨φ224, f80, f81, f82, f83, rfl, f85, f86, f87, f88, fi76, (le136.trans le228), (hS279.pick [1, 2] _ (by decide) rfl)⟩⟩
            · have hg283 := Arr.at_ a60 (k := x97.to_.toNat) (by have hz0 := chk_lt h126; omega)
              refine OKS.st (j := 2) (vs := [.int .i64 (w64 ((a60.get x97.from_.toNat) + x142))]) (cs' := List.flatMap encI (a60.set x97.to_.toNat (w64 ((a60.get x97.from_.toNat) + x142))).l) rfl rfl rfl rfl hS231 rfl rfl rfl rfl Try.sizeOf3 (by have hz0 := chk_lt h126; simp only [List.length_append, List.length_cons, List.length_nil, whole_len (f := encI) (sz := 1) (N := 9) a60 (fun _ => rfl) rfl]; omega) rfl (setN_at (sz := 1) (fo := 0) (fun _ => rfl) _ _ _ _ hg283 (by omega) (Nat.le_of_ble_eq_true rfl) rfl) rfl ?_
              intro W284 hS285
              have hS286 : St ⟨w, [], φ⟩ φ224 [.blk b111 189 [.int .i64 x97.Step.Kind, .int .i64 x97.Step.Index, .int .i64 x97.from_, .int .i64 x97.to_, (.func (.func fid114) (List.toArray fst115) (List.toArray cap116))], .blk b7 135 (List.flatMap encI a59.l), .blk b2 135 (List.flatMap encI (a60.set x97.to_.toNat (w64 ((a60.get x97.from_.toNat) + x142))).l)] W284 := hS285
              refine OKS.both ?_ ?_
              · refine OKS.mx2 rfl rfl rfl rfl (hS286.ldB (j := 0) rfl rfl rfl Try.isAgg3 (v := .int .i64 x97.to_) rfl) ?_
                refine OKS.r rfl rfl rfl rfl (fun _ => Runs.iaA rfl f83 rfl Try.runUnderlying135 Try.sizeOf3 (chk_lo h126) (chk_hi h126)) ?_
                refine OKS.both ?_ ?_
                · refine OKS.mx2 rfl rfl rfl rfl (hS286.ldB (j := 0) rfl rfl rfl Try.isAgg3 (v := .int .i64 x97.to_) rfl) ?_
                  have hg287 := Arr.at_ a59 (k := x97.to_.toNat) (by have hz0 := chk_lt h126; omega)
                  refine OKS.st (j := 1) (vs := [.int .i64 (↑k62 : Int)]) (cs' := List.flatMap encI (a59.set x97.to_.toNat (↑k62 : Int)).l) rfl rfl rfl rfl hS286 rfl rfl rfl rfl Try.sizeOf3 (by have hz0 := chk_lt h126; simp only [List.length_append, List.length_cons, List.length_nil, whole_len (f := encI) (sz := 1) (N := 9) a59 (fun _ => rfl) rfl]; omega) rfl (setN_at (sz := 1) (fo := 0) (fun _ => rfl) _ _ _ _ hg287 (by omega) (Nat.le_of_ble_eq_true rfl) rfl) rfl ?_
                  intro W288 hS289
                  have hS290 : St ⟨w, [], φ⟩ φ224 [.blk b111 189 [.int .i64 x97.Step.Kind, .int .i64 x97.Step.Index, .int .i64 x97.from_, .int .i64 x97.to_, (.func (.func fid114) (List.toArray fst115) (List.toArray cap116))], .blk b7 135 (List.flatMap encI (a59.set x97.to_.toNat (↑k62 : Int)).l), .blk b2 135 (List.flatMap encI (a60.set x97.to_.toNat (w64 ((a60.get x97.from_.toNat) + x142))).l)] W288 := hS289
                  refine OKS.r rfl rfl rfl rfl (fun _ => Runs.as rfl rfl) ?_
                  refine OKS.e ?_
                  refine blockQ_n ?_
                  cases hm161
                  exact thenQ_n ⟨rfl, ⟨φ224, f80, f81, f82, f83, rfl, f85, f86, f87, f88, fi76, (le136.trans le228), (hS290.pick [1, 2] _ (by decide) rfl)⟩⟩
                · have hg294 := Arr.at_ a59 (k := x97.to_.toNat) (by have hz0 := chk_lt h126; omega)
                  refine OKS.st (j := 1) (vs := [.int .i64 (↑k62 : Int)]) (cs' := List.flatMap encI (a59.set x97.to_.toNat (↑k62 : Int)).l) rfl rfl rfl rfl hS286 rfl rfl rfl rfl Try.sizeOf3 (by have hz0 := chk_lt h126; simp only [List.length_append, List.length_cons, List.length_nil, whole_len (f := encI) (sz := 1) (N := 9) a59 (fun _ => rfl) rfl]; omega) rfl (setN_at (sz := 1) (fo := 0) (fun _ => rfl) _ _ _ _ hg294 (by omega) (Nat.le_of_ble_eq_true rfl) rfl) rfl ?_
                  intro W295 hS296
                  have hS297 : St ⟨w, [], φ⟩ φ224 [.blk b111 189 [.int .i64 x97.Step.Kind, .int .i64 x97.Step.Index, .int .i64 x97.from_, .int .i64 x97.to_, (.func (.func fid114) (List.toArray fst115) (List.toArray cap116))], .blk b7 135 (List.flatMap encI (a59.set x97.to_.toNat (↑k62 : Int)).l), .blk b2 135 (List.flatMap encI (a60.set x97.to_.toNat (w64 ((a60.get x97.from_.toNat) + x142))).l)] W295 := hS296
                  refine OKS.mx2 rfl rfl rfl rfl (hS297.ldB (j := 0) rfl rfl rfl Try.isAgg3 (v := .int .i64 x97.to_) rfl) ?_
                  refine OKS.r rfl rfl rfl rfl (fun _ => Runs.as rfl rfl) ?_
                  refine OKS.e ?_
                  refine blockQ_n ?_
                  cases hm161
                  exact thenQ_n ⟨rfl, ⟨φ224, f80, f81, f82, f83, rfl, f85, f86, f87, f88, fi76, (le136.trans le228), (hS297.pick [1, 2] _ (by decide) rfl)⟩⟩
              · refine OKS.mx2 rfl rfl rfl rfl (hS286.ldB (j := 0) rfl rfl rfl Try.isAgg3 (v := .int .i64 x97.to_) rfl) ?_
                refine OKS.mx2 rfl rfl rfl rfl (hS286.ldB (j := 0) rfl rfl rfl Try.isAgg3 (v := .int .i64 x97.to_) rfl) ?_
                refine OKS.r rfl rfl rfl rfl (fun _ => Runs.iaA rfl f83 rfl Try.runUnderlying135 Try.sizeOf3 (chk_lo h126) (chk_hi h126)) ?_
                have hg301 := Arr.at_ a59 (k := x97.to_.toNat) (by have hz0 := chk_lt h126; omega)
                refine OKS.st (j := 1) (vs := [.int .i64 (↑k62 : Int)]) (cs' := List.flatMap encI (a59.set x97.to_.toNat (↑k62 : Int)).l) rfl rfl rfl rfl hS286 rfl rfl rfl rfl Try.sizeOf3 (by have hz0 := chk_lt h126; simp only [List.length_append, List.length_cons, List.length_nil, whole_len (f := encI) (sz := 1) (N := 9) a59 (fun _ => rfl) rfl]; omega) rfl (setN_at (sz := 1) (fo := 0) (fun _ => rfl) _ _ _ _ hg301 (by omega) (Nat.le_of_ble_eq_true rfl) rfl) rfl ?_
                intro W302 hS303
                have hS304 : St ⟨w, [], φ⟩ φ224 [.blk b111 189 [.int .i64 x97.Step.Kind, .int .i64 x97.Step.Index, .int .i64 x97.from_, .int .i64 x97.to_, (.func (.func fid114) (List.toArray fst115) (List.toArray cap116))], .blk b7 135 (List.flatMap encI (a59.set x97.to_.toNat (↑k62 : Int)).l), .blk b2 135 (List.flatMap encI (a60.set x97.to_.toNat (w64 ((a60.get x97.from_.toNat) + x142))).l)] W302 := hS303
                refine OKS.r rfl rfl rfl rfl (fun _ => Runs.as rfl rfl) ?_
                refine OKS.e ?_
                refine blockQ_n ?_
                cases hm161
                exact thenQ_n ⟨rfl, ⟨φ224, f80, f81, f82, f83, rfl, f85, f86, f87, f88, fi76, (le136.trans le228), (hS304.pick [1, 2] _ (by decide) rfl)⟩⟩
          · refine OKS.mx2 rfl rfl rfl rfl (hS162.ldB (j := 0) rfl rfl rfl Try.isAgg3 (v := .int .i64 x97.to_) rfl) ?_
            refine OKS.both ?_ ?_
            · refine OKS.mx2 rfl rfl rfl rfl (hS162.ldB (j := 0) rfl rfl rfl Try.isAgg3 (v := .int .i64 x97.to_) rfl) ?_
              have h315 := h109.le le136
              refine OKS.callV (a := ()) rfl rfl rfl rfl rfl rfl mapnil hS162 h315 rfl h143 ?_
              rintro φ309 L310 v311 W312 le313 hS314 ⟨rfl, rfl⟩
              have hS316 : St ⟨w, [], φ⟩ φ309 [.blk b111 189 [.int .i64 x97.Step.Kind, .int .i64 x97.Step.Index, .int .i64 x97.from_, .int .i64 x97.to_, (.func (.func fid114) (List.toArray fst115) (List.toArray cap116))], .blk b7 135 (List.flatMap encI a59.l), .blk b2 135 (List.flatMap encI a60.l)] W312 := hS314
              refine OKS.r rfl rfl rfl rfl (fun _ => Runs.addw rfl rfl rfl) ?_
              refine OKS.r rfl rfl rfl rfl (fun _ => Runs.iaA rfl f82 rfl Try.runUnderlying135 Try.sizeOf3 (chk_lo h126) (chk_hi h126)) ?_
              have hg317 := Arr.at_ a60 (k := x97.to_.toNat) (by have hz0 := chk_lt h126; omega)
              refine OKS.st (j := 2) (vs := [.int .i64 (w64 ((a60.get x97.from_.toNat) + x142))]) (cs' := List.flatMap encI (a60.set x97.to_.toNat (w64 ((a60.get x97.from_.toNat) + x142))).l) rfl rfl rfl rfl hS316 rfl rfl rfl rfl Try.sizeOf3 (by have hz0 := chk_lt h126; simp only [List.length_append, List.length_cons, List.length_nil, whole_len (f := encI) (sz := 1) (N := 9) a60 (fun _ => rfl) rfl]; omega) rfl (setN_at (sz := 1) (fo := 0) (fun _ => rfl) _ _ _ _ hg317 (by omega) (Nat.le_of_ble_eq_true rfl) rfl) rfl ?_
              intro W318 hS319
              have hS320 : St ⟨w, [], φ⟩ φ309 [.blk b111 189 [.int .i64 x97.Step.Kind, .int .i64 x97.Step.Index, .int .i64 x97.from_, .int .i64 x97.to_, (.func (.func fid114) (List.toArray fst115) (List.toArray cap116))], .blk b7 135 (List.flatMap encI a59.l), .blk b2 135 (List.flatMap encI (a60.set x97.to_.toNat (w64 ((a60.get x97.from_.toNat) + x142))).l)] W318 := hS319
              refine OKS.r rfl rfl rfl rfl (fun _ => Runs.iaA rfl f83 rfl Try.runUnderlying135 Try.sizeOf3 (chk_lo h126) (chk_hi h126)) ?_
              have hg321 := Arr.at_ a59 (k := x97.to_.toNat) (by have hz0 := chk_lt h126; omega)
              refine OKS.st (j := 1) (vs := [.int .i64 (↑k62 : Int)]) (cs' := List.flatMap encI (a59.set x97.to_.toNat (↑k62 : Int)).l) rfl rfl rfl rfl hS320 rfl rfl rfl rfl Try.sizeOf3 (by have hz0 := chk_lt h126; simp only [List.length_append, List.length_cons, List.length_nil, whole_len (f := encI) (sz := 1) (N := 9) a59 (fun _ => rfl) rfl]; omega) rfl (setN_at (sz := 1) (fo := 0) (fun _ => rfl) _ _ _ _ hg321 (by omega) (Nat.le_of_ble_eq_true rfl) rfl) rfl ?_
              intro W322 hS323
              have hS324 : St ⟨w, [], φ⟩ φ309 [.blk b111 189 [.int .i64 x97.Step.Kind, .int .i64 x97.Step.Index, .int .i64 x97.from_, .int .i64 x97.to_, (.func (.func fid114) (List.toArray fst115) (List.toArray cap116))], .blk b7 135 (List.flatMap encI (a59.set x97.to_.toNat (↑k62 : Int)).l), .blk b2 135 (List.flatMap encI (a60.set x97.to_.toNat (w64 ((a60.get x97.from_.toNat) + x142))).l)] W322 := hS323
              refine OKS.r rfl rfl rfl rfl (fun _ => Runs.as rfl rfl) ?_
              refine OKS.e ?_
              refine blockQ_n ?_
              cases hm161
              exact thenQ_n ⟨rfl, ⟨φ309, f80, f81, f82, f83, rfl, f85, f86, f87, f88, fi76, (le136.trans le313), (hS324.pick [1, 2] _ (by decide) rfl)⟩⟩
            · have h335 := h109.le le136
              refine OKS.callV (a := ()) rfl rfl rfl rfl rfl rfl mapnil hS162 h335 rfl h143 ?_
              rintro φ329 L330 v331 W332 le333 hS334 ⟨rfl, rfl⟩
              have hS336 : St ⟨w, [], φ⟩ φ329 [.blk b111 189 [.int .i64 x97.Step.Kind, .int .i64 x97.Step.Index, .int .i64 x97.from_, .int .i64 x97.to_, (.func (.func fid114) (List.toArray fst115) (List.toArray cap116))], .blk b7 135 (List.flatMap encI a59.l), .blk b2 135 (List.flatMap encI a60.l)] W332 := hS334
              refine OKS.r rfl rfl rfl rfl (fun _ => Runs.addw rfl rfl rfl) ?_
              refine OKS.r rfl rfl rfl rfl (fun _ => Runs.iaA rfl f82 rfl Try.runUnderlying135 Try.sizeOf3 (chk_lo h126) (chk_hi h126)) ?_
              refine OKS.both ?_ ?_
              · refine OKS.mx2 rfl rfl rfl rfl (hS336.ldB (j := 0) rfl rfl rfl Try.isAgg3 (v := .int .i64 x97.to_) rfl) ?_
                have hg337 := Arr.at_ a60 (k := x97.to_.toNat) (by have hz0 := chk_lt h126; omega)
                refine OKS.st (j := 2) (vs := [.int .i64 (w64 ((a60.get x97.from_.toNat) + x142))]) (cs' := List.flatMap encI (a60.set x97.to_.toNat (w64 ((a60.get x97.from_.toNat) + x142))).l) rfl rfl rfl rfl hS336 rfl rfl rfl rfl Try.sizeOf3 (by have hz0 := chk_lt h126; simp only [List.length_append, List.length_cons, List.length_nil, whole_len (f := encI) (sz := 1) (N := 9) a60 (fun _ => rfl) rfl]; omega) rfl (setN_at (sz := 1) (fo := 0) (fun _ => rfl) _ _ _ _ hg337 (by omega) (Nat.le_of_ble_eq_true rfl) rfl) rfl ?_
                intro W338 hS339
                have hS340 : St ⟨w, [], φ⟩ φ329 [.blk b111 189 [.int .i64 x97.Step.Kind, .int .i64 x97.Step.Index, .int .i64 x97.from_, .int .i64 x97.to_, (.func (.func fid114) (List.toArray fst115) (List.toArray cap116))], .blk b7 135 (List.flatMap encI a59.l), .blk b2 135 (List.flatMap encI (a60.set x97.to_.toNat (w64 ((a60.get x97.from_.toNat) + x142))).l)] W338 := hS339
                refine OKS.r rfl rfl rfl rfl (fun _ => Runs.iaA rfl f83 rfl Try.runUnderlying135 Try.sizeOf3 (chk_lo h126) (chk_hi h126)) ?_
                have hg341 := Arr.at_ a59 (k := x97.to_.toNat) (by have hz0 := chk_lt h126; omega)
                refine OKS.st (j := 1) (vs := [.int .i64 (↑k62 : Int)]) (cs' := List.flatMap encI (a59.set x97.to_.toNat (↑k62 : Int)).l) rfl rfl rfl rfl hS340 rfl rfl rfl rfl Try.sizeOf3 (by have hz0 := chk_lt h126; simp only [List.length_append, List.length_cons, List.length_nil, whole_len (f := encI) (sz := 1) (N := 9) a59 (fun _ => rfl) rfl]; omega) rfl (setN_at (sz := 1) (fo := 0) (fun _ => rfl) _ _ _ _ hg341 (by omega) (Nat.le_of_ble_eq_true rfl) rfl) rfl ?_
                intro W342 hS343
                have hS344 : St ⟨w, [], φ⟩ φ329 [.blk b111 189 [.int .i64 x97.Step.Kind, .int .i64 x97.Step.Index, .int .i64 x97.from_, .int .i64 x97.to_, (.func (.func fid114) (List.toArray fst115) (List.toArray cap116))], .blk b7 135 (List.flatMap encI (a59.set x97.to_.toNat (↑k62 : Int)).l), .blk b2 135 (List.flatMap encI (a60.set x97.to_.toNat (w64 ((a60.get x97.from_.toNat) + x142))).l)] W342 := hS343
                refine OKS.r rfl rfl rfl rfl (fun _ => Runs.as rfl rfl) ?_
                refine OKS.e ?_
                refine blockQ_n ?_
                cases hm161
                exact thenQ_n ⟨rfl, ⟨φ329, f80, f81, f82, f83, rfl, f85, f86, f87, f88, fi76, (le136.trans le333), (hS344.pick [1, 2] _ (by decide) rfl)⟩⟩
              · have hg348 := Arr.at_ a60 (k := x97.to_.toNat) (by have hz0 := chk_lt h126; omega)
                refine OKS.st (j := 2) (vs := [.int .i64 (w64 ((a60.get x97.from_.toNat) + x142))]) (cs' := List.flatMap encI (a60.set x97.to_.toNat (w64 ((a60.get x97.from_.toNat) + x142))).l) rfl rfl rfl rfl hS336 rfl rfl rfl rfl Try.sizeOf3 (by have hz0 := chk_lt h126; simp only [List.length_append, List.length_cons, List.length_nil, whole_len (f := encI) (sz := 1) (N := 9) a60 (fun _ => rfl) rfl]; omega) rfl (setN_at (sz := 1) (fo := 0) (fun _ => rfl) _ _ _ _ hg348 (by omega) (Nat.le_of_ble_eq_true rfl) rfl) rfl ?_
                intro W349 hS350
                have hS351 : St ⟨w, [], φ⟩ φ329 [.blk b111 189 [.int .i64 x97.Step.Kind, .int .i64 x97.Step.Index, .int .i64 x97.from_, .int .i64 x97.to_, (.func (.func fid114) (List.toArray fst115) (List.toArray cap116))], .blk b7 135 (List.flatMap encI a59.l), .blk b2 135 (List.flatMap encI (a60.set x97.to_.toNat (w64 ((a60.get x97.from_.toNat) + x142))).l)] W349 := hS350
                refine OKS.mx2 rfl rfl rfl rfl (hS351.ldB (j := 0) rfl rfl rfl Try.isAgg3 (v := .int .i64 x97.to_) rfl) ?_
                refine OKS.r rfl rfl rfl rfl (fun _ => Runs.iaA rfl f83 rfl Try.runUnderlying135 Try.sizeOf3 (chk_lo h126) (chk_hi h126)) ?_
                have hg352 := Arr.at_ a59 (k := x97.to_.toNat) (by have hz0 := chk_lt h126; omega)
                refine OKS.st (j := 1) (vs := [.int .i64 (↑k62 : Int)]) (cs' := List.flatMap encI (a59.set x97.to_.toNat (↑k62 : Int)).l) rfl rfl rfl rfl hS351 rfl rfl rfl rfl Try.sizeOf3 (by have hz0 := chk_lt h126; simp only [List.length_append, List.length_cons, List.length_nil, whole_len (f := encI) (sz := 1) (N := 9) a59 (fun _ => rfl) rfl]; omega) rfl (setN_at (sz := 1) (fo := 0) (fun _ => rfl) _ _ _ _ hg352 (by omega) (Nat.le_of_ble_eq_true rfl) rfl) rfl ?_
                intro W353 hS354
                have hS355 : St ⟨w, [], φ⟩ φ329 [.blk b111 189 [.int .i64 x97.Step.Kind, .int .i64 x97.Step.Index, .int .i64 x97.from_, .int .i64 x97.to_, (.func (.func fid114) (List.toArray fst115) (List.toArray cap116))], .blk b7 135 (List.flatMap encI (a59.set x97.to_.toNat (↑k62 : Int)).l), .blk b2 135 (List.flatMap encI (a60.set x97.to_.toNat (w64 ((a60.get x97.from_.toNat) + x142))).l)] W353 := hS354
                refine OKS.r rfl rfl rfl rfl (fun _ => Runs.as rfl rfl) ?_
                refine OKS.e ?_
                refine blockQ_n ?_
                cases hm161
                exact thenQ_n ⟨rfl, ⟨φ329, f80, f81, f82, f83, rfl, f85, f86, f87, f88, fi76, (le136.trans le333), (hS355.pick [1, 2] _ (by decide) rfl)⟩⟩
        · have hm359 := hm131; rw [if_neg c139] at hm359; replace c139 := Hid.mk c139
          refine CK.condF (decF c139.out) ?_
          refine CK.skip ?_
          refine blockQ_n ?_
          cases hm359
          exact thenQ_n ⟨rfl, ⟨φ132, f80, f81, f82, f83, f84, f85, f86, f87, f88, fi76, le136, (hS138.pick [1, 2] _ (by decide) rfl)⟩⟩
      · rintro σ363 W364 ⟨φ365, f368, f369, f370, f371, f372, f373, f374, f375, f376, f377, le366, hS367⟩
        refine CK.reg (ks := []) (.fl 0 (.fl 1 (.nil))) rfl ?_
        refine OKS.r rfl rfl rfl rfl (fun _ => Runs.to (Runs.addw rfl f377 rfl) (congrArg (Value.int .i64) hi90.out)) ?_
        refine OKS.r rfl rfl rfl rfl (fun _ => Runs.mv rfl rfl) ?_
        refine OKS.e ?_
        cases hm96
        exact thenQ_n ⟨rfl, ⟨φ365, rfl, f368, f369, f370, f371, f372, f373, f374, f375, f376, (le78.trans le366), hS367⟩⟩
    · rintro σ381 W382 ⟨φ388, fi384, f391, f392, f393, f394, f395, f396, f397, f398, f399, le389, hS390⟩
      have c400 : Hid (¬ ((↑(((↑p1.length : Int) : Int) - 0).toNat : Int) < (↑p1.length : Int))) := Hid.mk (lp_end0)
      refine CK.seq ?_
      refine CK.reg (ks := []) (.fl 0 (.nil)) rfl ?_
      refine OKS.r rfl rfl rfl rfl (fun _ => Runs.lss rfl fi384 f399) ?_
      refine OKS.e ?_
      refine thenQ_n ?_
      refine CK.seq ?_
      refine CK.condF (decF c400.out) ?_
      refine CK.exit ?_
      refine thenQ_e ?_
      refine thenQ_e ?_
      refine blockQ_h ?_
      refine thenQ_n ?_
      refine CK.seq ?_
      refine CK.reg (ks := []) (.fl 0 (.fl 1 (.nil))) rfl ?_
      refine OKS.r rfl rfl rfl rfl (fun _ => Runs.mv rfl f395) ?_
      refine OKS.r rfl rfl rfl rfl (fun _ => Runs.lss rfl rfl rfl) ?_
      refine OKS.e ?_
      refine thenQ_n ?_
      by_cases c401 : y69 < 0
      · have hm402 := hm63; rw [if_pos c401] at hm402; replace c401 := Hid.mk c401
        refine CK.condT (decT c401.out) ?_
        refine CK.exit ?_
        refine blockQ_m ?_
        refine thenQ_e ?_
        obtain ⟨v403, hm404, e405⟩ := esc_spec hm402
        obtain rfl := jn_inr hm hX27 (hb34 v403 e405)
        refine thenQ_e ?_
        refine blockQ_h ?_
        refine thenQ_n ?_
        refine CK.seq ?_
        refine CK.seq ?_
        refine CK.reg (ks := []) (.fl 0 (.fl 1 (.nil))) rfl ?_
        refine OKS.r rfl rfl rfl rfl (fun _ => Runs.mv rfl f395) ?_
        refine OKS.r rfl rfl rfl rfl (fun _ => Runs.lss rfl rfl rfl) ?_
        refine OKS.e ?_
        refine thenQ_n ?_
        refine CK.condT (decT c401.out) ?_
        refine CK.seq ?_
        refine CK.reg (ks := []) (.fl 0 (.nil)) rfl ?_
        refine OKS.r rfl rfl rfl rfl (fun _ => Runs.as rfl rfl) ?_
        refine OKS.e ?_
        refine thenQ_n ?_
        refine CK.ret ?_
        refine thenQ_r ?_
        refine scopeQ_r ?_
        have hS406 := hS390.nilrow 114 2
        cases hm404
        exact ⟨rfl, _, (res1 rfl), φ388, _, (hS406.pick [0] _ (by decide) rfl), none, 0, rfl, rfl, (fun _ => rfl)⟩
      · have hm408 := hm63; rw [if_neg c401] at hm408; replace c401 := Hid.mk c401
        refine CK.condF (decF c401.out) ?_
        refine CK.skip ?_
        refine blockQ_n ?_
        refine thenQ_n ?_
        refine CK.reg (ks := []) (.fl 0 (.fl 1 (.nil))) rfl ?_
        refine OKS.r rfl rfl rfl rfl (fun _ => Runs.to (Runs.addw rfl f397 rfl) (congrArg (Value.int .i64) hi47.out)) ?_
        refine OKS.r rfl rfl rfl rfl (fun _ => Runs.mv rfl rfl) ?_
        refine OKS.e ?_
        obtain rfl := Option.some.inj hm408
        exact thenQ_n ⟨rfl, _, rfl, ⟨φ388, rfl, f391, f392, f393, f394, f395, f396, (le38.trans le389), hS390⟩⟩
  · rintro ⟨y416, y417, y418⟩ σ412 W413 ⟨φ419, fi415, f422, f423, f424, f425, f426, f427, le420, hS421⟩ hb414
    have hm428 := jn_inl hm hX27 hb414
    try dsimp only at hm428
    have c429 : Hid (¬ ((↑((w64 (p0 + 2) : Int) - 0).toNat : Int) < (w64 (p0 + 2)))) := Hid.mk (lp_end0)
    refine CK.seq ?_
    refine CK.reg (ks := []) (.fl 0 (.nil)) rfl ?_
    refine OKS.r rfl rfl rfl rfl (fun _ => Runs.lss rfl fi415 f427) ?_
    refine OKS.e ?_
    refine thenQ_n ?_
    refine CK.seq ?_
    refine CK.condF (decF c429.out) ?_
    refine CK.exit ?_
    refine thenQ_e ?_
    refine thenQ_e ?_
    refine blockQ_h ?_
    refine thenQ_n ?_
    refine CK.seq ?_
    refine CK.seq ?_
    refine CK.reg (ks := []) (.fl 0 (.fl 1 (.nil))) rfl ?_
    refine OKS.r rfl rfl rfl rfl (fun _ => Runs.mv rfl f426) ?_
    refine OKS.r rfl rfl rfl rfl (fun _ => Runs.lss rfl rfl rfl) ?_
    refine OKS.e ?_
    refine thenQ_n ?_
    by_cases c430 : y418 < 0
    · have hm431 := hm428; rw [if_pos c430] at hm431; replace c430 := Hid.mk c430
      refine CK.condT (decT c430.out) ?_
      refine CK.seq ?_
      refine CK.reg (ks := []) (.fl 0 (.nil)) rfl ?_
      refine OKS.r rfl rfl rfl rfl (fun _ => Runs.as rfl rfl) ?_
      refine OKS.e ?_
      refine thenQ_n ?_
      refine CK.ret ?_
      refine thenQ_r ?_
      refine scopeQ_r ?_
      have hS432 := hS421.nilrow 114 2
      cases hm431
      exact ⟨rfl, _, (res1 rfl), φ419, _, (hS432.pick [0] _ (by decide) rfl), none, 0, rfl, rfl, (fun _ => rfl)⟩
    · have hm434 := hm428; rw [if_neg c430] at hm434; replace c430 := Hid.mk c430
      refine CK.condF (decF c430.out) ?_
      refine CK.skip ?_
      refine thenQ_n ?_
      refine CK.seq ?_
      refine CK.seq ?_
      refine CK.reg (ks := []) (.fl 0 (.fl 1 (.fl 2 (.nil)))) rfl ?_
      refine OKS.r rfl rfl rfl rfl (fun _ => Runs.mv rfl f422) ?_
      refine OKS.r rfl rfl rfl rfl (fun _ => Runs.addw rfl rfl rfl) ?_
      refine OKS.r rfl rfl rfl rfl (fun _ => Runs.mv rfl rfl) ?_
      refine OKS.e ?_
      refine thenQ_n ?_
      refine CK.block ?_
      obtain ⟨y446, hf443, hm442⟩ := bnd hm434
      obtain ⟨hle444, hf445⟩ := forR'_le hf443
      replace hle444 := Hid.mk hle444
      refine CK.forN' (fun k441 x440 σ_ w_ => ∃ (φ_ : PHeap), σ_ 62 = .int .i64 (↑k441 : Int) ∧ σ_ 1 = .slice pA1 p1.length pc1 ∧ σ_ 6 = .pointer (some ⟨b7, 0, none⟩) ∧ σ_ 7 = .int .i64 x440 ∧ σ_ 61 = .int .i64 (w64 (p0 + 1)) ∧ PHeap.Le φ419 φ_ ∧ St ⟨w, [], φ⟩ φ_ [.blk b7 135 (List.flatMap encI y416.l), .blk b2 135 (List.flatMap encI y417.l)] w_) hf445 ?_ ?_ ?_
      · exact ⟨φ419, rfl, f423, f425, f426, rfl, (PHeap.Le.refl _), hS421⟩
      · rintro k441 x440 xx449 σ447 W448 hk452 ⟨φ454, fi453, f457, f458, f459, f460, le455, hS456⟩ hx450
        have c461 : Hid ((↑k441 : Int) < (w64 (p0 + 1))) := Hid.mk (lp_lt0 hk452)
        replace hk452 := Hid.mk hk452
        have hi462 : Hid (w64 ((↑k441 : Int) + 1) = (↑(k441 + 1) : Int)) := Hid.mk (by have h1 := hle444.out; have h2 := c461.out; rw [w64_in] <;> omega)
        refine CK.seq ?_
        refine CK.reg (ks := []) (.fl 0 (.nil)) rfl ?_
        refine OKS.r rfl rfl rfl rfl (fun _ => Runs.lss rfl fi453 f460) ?_
        refine OKS.e ?_
        refine thenQ_n ?_
        refine CK.seq ?_
        refine CK.condT (decT c461.out) ?_
        refine CK.skip ?_
        refine thenQ_n ?_
        refine CK.seq ?_
        refine CK.block ?_
        refine CK.reg (ks := []) (.fl 0 (.fl 1 (.fl 2 (.fl 3 (.fl 4 (.fl 5 (.fl 6 (.fl 7 (.nil))))))))) rfl ?_
        refine OKS.r rfl rfl rfl rfl (fun _ => Runs.mv rfl f457) ?_
        refine OKS.r rfl rfl rfl rfl (fun _ => Runs.mv rfl f459) ?_
        obtain ⟨_, h463, hm464⟩ := bnd hx450
        refine OKS.r rfl rfl rfl rfl (fun _ => Runs.iaA rfl f458 rfl Try.runUnderlying135 Try.sizeOf3 (chk_lo h463) (chk_hi h463)) ?_
        have hg465 := Arr.at_ y416 (k := x440.toNat) (by have hz0 := chk_lt h463; omega)
        refine OKS.m rfl rfl rfl rfl (hS456.ldB (j := 0) rfl rfl rfl Try.isAgg3 (flatMap_cell (sz := 1) (fun _ => rfl) _ _ 0 _ hg465 (by omega) rfl)) rfl ?_
        obtain ⟨x466, h467, hm468⟩ := bnd hm464
        have h469 := ha0.le le420
        have h470 := h469.le le455
        obtain ⟨b471, off472, vs475, hA473, hC474, hr476⟩ := h470.el (idx_get h467)
        obtain ⟨pv477, rfl, h478⟩ := hr476
        replace hC474 : Cl φ454 b471 (off472 + (y416.get x440.toNat).toNat * 5) [.int .i64 x466.Step.Kind, .int .i64 x466.Step.Index, .int .i64 x466.from_, .int .i64 x466.to_, pv477] := hC474
        refine OKS.r rfl rfl rfl rfl (fun _ => Runs.iaI rfl rfl hA473 rfl Try.runUnderlying142 Try.sizeOf189 (idx_lo h467) (idx_hi h467)) ?_
        refine OKS.r rfl rfl rfl rfl (fun _ => Runs.fa rfl rfl Try.runUnderlying189 rfl Try.sizeOf3) ?_
        refine OKS.m rfl rfl rfl rfl (hS456.ldC (f := 2) hC474 (v := .int .i64 x466.from_) rfl rfl Try.isAgg3 rfl) rfl ?_
        refine OKS.r rfl rfl rfl rfl (fun _ => Runs.as rfl rfl) ?_
        refine OKS.e ?_
        refine blockQ_n ?_
        refine thenQ_n ?_
        refine CK.reg (ks := []) (.fl 0 (.fl 1 (.nil))) rfl ?_
        refine OKS.r rfl rfl rfl rfl (fun _ => Runs.to (Runs.addw rfl fi453 rfl) (congrArg (Value.int .i64) hi462.out)) ?_
        refine OKS.r rfl rfl rfl rfl (fun _ => Runs.mv rfl rfl) ?_
        refine OKS.e ?_
        cases hm468
        exact thenQ_n ⟨rfl, ⟨φ454, rfl, f457, f458, rfl, f460, le455, hS456⟩⟩
      · rintro σ480 W481 ⟨φ485, fi483, f488, f489, f490, f491, le486, hS487⟩
        have c492 : Hid (¬ ((↑((w64 (p0 + 1) : Int) - 0).toNat : Int) < (w64 (p0 + 1)))) := Hid.mk (lp_end0)
        refine CK.seq ?_
        refine CK.reg (ks := []) (.fl 0 (.nil)) rfl ?_
        refine OKS.r rfl rfl rfl rfl (fun _ => Runs.lss rfl fi483 f491) ?_
        refine OKS.e ?_
        refine thenQ_n ?_
        refine CK.seq ?_
        refine CK.condF (decF c492.out) ?_
        refine CK.exit ?_
        refine thenQ_e ?_
        refine thenQ_e ?_
        refine blockQ_h ?_
        refine thenQ_n ?_
        refine CK.seq ?_
        refine CK.reg (ks := []) (.fl 0 (.nil)) rfl ?_
        refine OKS.r rfl rfl rfl rfl (fun _ => Runs.as rfl rfl) ?_
        refine OKS.e ?_
        refine thenQ_n ?_
        refine CK.seq ?_
        refine CK.reg (ks := []) (.fl 0 (.fl 1 (.nil))) rfl ?_
        refine OKS.r rfl rfl rfl rfl (fun _ => Runs.mv rfl f490) ?_
        refine OKS.r rfl rfl rfl rfl (fun _ => Runs.as rfl rfl) ?_
        refine OKS.e ?_
        refine thenQ_n ?_
        obtain ⟨l493, hx497, hm498⟩ := bnd hm442
        refine CK.cut (fun σ_ w_ => ∃ (φ_ : PHeap) (A494 : Option Addr) (c495 : Nat), σ_ 10 = .slice A494 l493.length c495 ∧ PHeap.Le φ485 φ_ ∧ St ⟨w, [], φ⟩ φ_ [.blk b7 135 (List.flatMap encI y416.l), .blk b2 135 (List.flatMap encI y417.l), .row A494 c495 114 2 (List.flatMap encT_target_Step l493)] w_) ?_ ?_
        · refine CK.block ?_
          refine CK.iter (fun (l513, x517) σ_ w_ => ∃ (φ_ : PHeap) (A514 : Option Addr) (c515 : Nat), σ_ 1 = .slice pA1 p1.length pc1 ∧ σ_ 6 = .pointer (some ⟨b7, 0, none⟩) ∧ σ_ 7 = .int .i64 y446 ∧ σ_ 10 = .slice A514 l513.length c515 ∧ σ_ 11 = .int .i64 x517 ∧ PHeap.Le φ485 φ_ ∧ St ⟨w, [], φ⟩ φ_ [.blk b7 135 (List.flatMap encI y416.l), .blk b2 135 (List.flatMap encI y417.l), .row A514 c515 114 2 (List.flatMap encT_target_Step l513)] w_) hx497 ?_ ?_
          · have hS518 := hS487.nilrow 114 2
            exact ⟨φ485, none, 0, f488, f489, f490, rfl, rfl, (PHeap.Le.refl _), (hS518.pick [1, 2, 0] _ (by decide) rfl)⟩
          · rintro ⟨l513, x517⟩ xx522 σ520 W521 ⟨φ527, A514, c515, f530, f531, f532, f533, f534, le528, hS529⟩ hx523 hb524
            try dsimp only at hx523
            refine CK.block ?_
            refine CK.seq ?_
            refine CK.reg (ks := []) (.fl 0 (.fl 1 (.fl 2 (.fl 3 (.fl 4 (.fl 5 (.fx 6 (.fx 7 (.nil) .stop) .stop))))))) rfl ?_
            refine OKS.r rfl rfl rfl rfl (fun _ => Runs.mv rfl f530) ?_
            refine OKS.r rfl rfl rfl rfl (fun _ => Runs.mv rfl f534) ?_
            obtain ⟨_, h535, hm536⟩ := bnd hx523
            refine OKS.r rfl rfl rfl rfl (fun _ => Runs.iaA rfl f531 rfl Try.runUnderlying135 Try.sizeOf3 (chk_lo h535) (chk_hi h535)) ?_
            have hg537 := Arr.at_ y416 (k := x517.toNat) (by have hz0 := chk_lt h535; omega)
            refine OKS.m rfl rfl rfl rfl (hS529.ldB (j := 0) rfl rfl rfl Try.isAgg3 (flatMap_cell (sz := 1) (fun _ => rfl) _ _ 0 _ hg537 (by omega) rfl)) rfl ?_
            obtain ⟨x538, h539, hm540⟩ := bnd hm536
            have h541 := ha0.le le420
            have h542 := h541.le le486
            have h543 := h542.le le528
            obtain ⟨b544, off545, vs548, hA546, hC547, hr549⟩ := h543.el (idx_get h539)
            obtain ⟨pv550, rfl, h551⟩ := hr549
            replace hC547 : Cl φ527 b544 (off545 + (y416.get x517.toNat).toNat * 5) [.int .i64 x538.Step.Kind, .int .i64 x538.Step.Index, .int .i64 x538.from_, .int .i64 x538.to_, pv550] := hC547
            refine OKS.r rfl rfl rfl rfl (fun _ => Runs.iaI rfl rfl hA546 rfl Try.runUnderlying142 Try.sizeOf189 (idx_lo h539) (idx_hi h539)) ?_
            refine OKS.m rfl rfl rfl rfl (hS529.ldCA (f := 0) hC547 rfl rfl Try.isAgg189 Try.sizeOf189 (us := [.int .i64 x538.Step.Kind, .int .i64 x538.Step.Index, .int .i64 x538.from_, .int .i64 x538.to_, pv550]) rfl rfl) rfl ?_
            refine OKS.alloc (cs := [.int .i64 0, .int .i64 0, .int .i64 0, .int .i64 0, .nilFunc]) rfl rfl rfl rfl rfl Try.zeroValue189 rfl hS529 ?_
            intro W552 b553 hS554
            obtain ⟨fid556, fst557, cap558, he559, _⟩ := id h551
            subst he559
            refine OKS.st (j := 0) (vs := [.int .i64 x538.Step.Kind, .int .i64 x538.Step.Index, .int .i64 x538.from_, .int .i64 x538.to_, (.func (.func fid556) (List.toArray fst557) (List.toArray cap558))]) rfl rfl rfl rfl hS554 rfl rfl rfl rfl Try.sizeOf189 (Nat.le_of_ble_eq_true rfl) rfl rfl rfl ?_
            intro W560 hS561
            have hS562 : St ⟨w, [], φ⟩ φ527 [.blk b553 189 [.int .i64 x538.Step.Kind, .int .i64 x538.Step.Index, .int .i64 x538.from_, .int .i64 x538.to_, (.func (.func fid556) (List.toArray fst557) (List.toArray cap558))], .blk b7 135 (List.flatMap encI y416.l), .blk b2 135 (List.flatMap encI y417.l), .row A514 c515 114 2 (List.flatMap encT_target_Step l513)] W560 := hS561
            refine OKS.e ?_
            refine thenQ_n ?_
            refine CK.seq ?_
            refine CK.reg (ks := []) (.fl 0 (.fl 1 (.fl 2 (.fx 3 (.fx 4 (.fl 5 (.nil)) .stop) .stop)))) rfl ?_
            refine OKS.r rfl rfl rfl rfl (fun _ => Runs.mv rfl f533) ?_
            refine OKS.r rfl rfl rfl rfl (fun _ => Runs.fa rfl rfl Try.runUnderlying189 rfl Try.sizeOf114) ?_
            refine OKS.m rfl rfl rfl rfl (hS562.ldBA (j := 0) rfl rfl rfl Try.isAgg114 Try.sizeOf114 (vs := [.int .i64 x538.Step.Kind, .int .i64 x538.Step.Index]) rfl rfl) rfl ?_
            refine OKS.buildSlice (pv := [(0, .agg #[.int .i64 x538.Step.Kind, .int .i64 x538.Step.Index])]) (zs := [.int .i64 0, .int .i64 0]) (cs := [.int .i64 x538.Step.Kind, .int .i64 x538.Step.Index]) rfl rfl rfl rfl rfl (mapcons2 rfl mapnil2) Try.runUnderlying110 Try.sizeOf114 Try.zeroValue114 rfl rfl rfl rfl rfl hS562 ?_
            intro W563 b564 hS565
            have hS567 : St ⟨w, [], φ⟩ φ527 [.row (some ⟨b564, 0, none⟩) 1 114 2 (List.flatMap encT_target_Step [x538.Step]), .blk b553 189 [.int .i64 x538.Step.Kind, .int .i64 x538.Step.Index, .int .i64 x538.from_, .int .i64 x538.to_, (.func (.func fid556) (List.toArray fst557) (List.toArray cap558))], .blk b7 135 (List.flatMap encI y416.l), .blk b2 135 (List.flatMap encI y417.l), .row A514 c515 114 2 (List.flatMap encT_target_Step l513)] W563 := hS565
            obtain ⟨x568, h569, hm570⟩ := bnd hm540
            refine OKS.append (j := 4) (enc := encT_target_Step) (xs := l513) (ys := [x538.Step]) (zs := x568) rfl rfl rfl rfl rfl Try.underlying110 info114 rfl rfl rfl rfl rfl rfl hS567 rfl rfl rfl (hS567.srcR (j := 0) rfl (by decide) (flatMap_len (f := encT_target_Step) (sz := 2) (fun _ => rfl) [x538.Step])) (fun _ => rfl) (fun _ => rfl) h569 rfl ?_
            intro A571 c572 W573 hS574
            have hS575 : St ⟨w, [], φ⟩ φ527 [.row (some ⟨b564, 0, none⟩) 1 114 2 (List.flatMap encT_target_Step [x538.Step]), .blk b553 189 [.int .i64 x538.Step.Kind, .int .i64 x538.Step.Index, .int .i64 x538.from_, .int .i64 x538.to_, (.func (.func fid556) (List.toArray fst557) (List.toArray cap558))], .blk b7 135 (List.flatMap encI y416.l), .blk b2 135 (List.flatMap encI y417.l), .row A571 c572 114 2 (List.flatMap encT_target_Step x568)] W573 := hS574
            refine OKS.r rfl rfl rfl rfl (fun _ => Runs.as rfl rfl) ?_
            refine OKS.e ?_
            refine thenQ_n ?_
            refine CK.seq ?_
            refine CK.reg (ks := []) (.fl 0 (.fl 1 (.fl 2 (.nil)))) rfl ?_
            refine OKS.r rfl rfl rfl rfl (fun _ => Runs.fa rfl rfl Try.runUnderlying189 rfl Try.sizeOf3) ?_
            refine OKS.m rfl rfl rfl rfl (hS575.ldB (j := 1) rfl rfl rfl Try.isAgg3 (v := .int .i64 x538.from_) rfl) rfl ?_
            refine OKS.r rfl rfl rfl rfl (fun _ => Runs.as rfl rfl) ?_
            refine OKS.e ?_
            refine thenQ_n ?_
            refine CK.seq ?_
            refine CK.reg (ks := []) (.fl 0 (.fl 1 (.fl 2 (.nil)))) rfl ?_
            refine OKS.r rfl rfl rfl rfl (fun _ => Runs.mv rfl rfl) ?_
            refine OKS.r rfl rfl rfl rfl (fun _ => Runs.mv rfl f532) ?_
            refine OKS.r rfl rfl rfl rfl (fun _ => Runs.eql rfl rfl rfl) ?_
            refine OKS.e ?_
            refine thenQ_n ?_
            by_cases c576 : x538.from_ = y446
            · have hm577 := hm570; rw [if_pos c576] at hm577; replace c576 := Hid.mk c576
              refine CK.condT (decT c576.out) ?_
              refine CK.exit ?_
              refine blockQ_m ?_
              obtain ⟨v578, hm579, e580⟩ := esc_spec hm577
              obtain rfl := hb524 v578 e580
              refine thenQ_e ?_
              refine blockQ_h ?_
              cases hm579
              exact thenQ_n ⟨rfl, ⟨φ527, A571, c572, rfl, le528, (hS575.pick [2, 3, 4] _ (by decide) rfl)⟩⟩
            · have hm584 := hm570; rw [if_neg c576] at hm584; replace c576 := Hid.mk c576
              refine CK.condF (decF c576.out) ?_
              refine CK.skip ?_
              refine blockQ_n ?_
              obtain rfl := Option.some.inj hm584
              exact thenQ_n ⟨rfl, _, rfl, ⟨φ527, A571, c572, f530, f531, f532, rfl, rfl, le528, (hS575.pick [2, 3, 4] _ (by decide) rfl)⟩⟩
        · rintro σ589 W590 ⟨φ591, A494, c495, f594, le592, hS593⟩
          refine CK.seq ?_
          refine CK.reg (ks := []) (.fl 0 (.fx 1 (.nil) .stop)) rfl ?_
          refine OKS.r rfl rfl rfl rfl (fun _ => Runs.mv rfl f594) ?_
          obtain ⟨x595, h596, hm597⟩ := bnd hm498
          have hS598 : St ⟨w, [], φ⟩ φ591 [.row A494 c495 114 2 (List.flatMap encT_target_Step l493), .blk b7 135 (List.flatMap encI y416.l), .blk b2 135 (List.flatMap encI y417.l)] W590 := hS593.pick [2, 0, 1] _ (by decide) rfl
          refine OKS.callH 1 rfl rfl rfl rfl (Enters.mk rfl rfl Try.call141 (mapcons rfl mapnil) rfl) hS598 (fun hs => w_slices_Reverse_target_Step_target_Step l493 A494 c495 W590 φ591 hs h596) (.inl rfl) ?_
          rintro φ599 L600 v601 W602 le603 hS604 ⟨rfl, rfl, h605⟩
          have hS606 : St ⟨w, [], φ⟩ φ599 [.row A494 c495 114 2 (List.flatMap encT_target_Step x595), .blk b7 135 (List.flatMap encI y416.l), .blk b2 135 (List.flatMap encI y417.l)] W602 := hS604
          refine OKS.e ?_
          refine thenQ_n ?_
          refine CK.seq ?_
          refine CK.reg (ks := []) (.fl 0 (.fl 1 (.nil))) rfl ?_
          refine OKS.r rfl rfl rfl rfl (fun _ => Runs.mv rfl (Eq.trans (b := (.slice A494 l493.length c495 : Value)) (c := (.slice A494 x595.length c495 : Value)) f594 (by rw [h605]))) ?_
          refine OKS.r rfl rfl rfl rfl (fun _ => Runs.as rfl rfl) ?_
          refine OKS.e ?_
          refine thenQ_n ?_
          refine CK.ret ?_
          refine scopeQ_r ?_
          obtain ⟨x607, h608, hm609⟩ := bnd hm597
          cases hm609
          exact ⟨rfl, _, (res1 rfl), φ599, _, (hS606.pick [0] _ (by decide) rfl), A494, c495, rfl, rfl, (fun h => absurd h (chkne_ne h608))⟩
end Go.Proofs.Ytnllmignponhdaa
