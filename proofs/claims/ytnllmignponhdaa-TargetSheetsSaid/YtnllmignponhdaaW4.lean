/- Walks, printed by a program: each function does what its model says. -/
import Derived.Test.YtnllmignponhdaaEnc
import Derived.Test.YtnllmignponhdaaW0
import Derived.Test.YtnllmignponhdaaW1
import Derived.Test.YtnllmignponhdaaW2
import Derived.Test.YtnllmignponhdaaW3
namespace Go.Proofs.Ytnllmignponhdaa
open Go.KL
set_option maxHeartbeats 4000000 in
theorem w_target_counted (p0 : Int) (p1 : List T_target_Sheet) (pA1 : Option Addr) (pc1 : Nat) (w : World) (φ : PHeap) (hS : St ⟨w, [], φ⟩ φ [] w) (ha0 : Sl φ 4 pA1 pc1 p1.length (List.flatMap encT_target_Sheet p1)) {r : (Arr Int 81) × Int} (hm : m_target_counted p0 p1 = some r) : Gv Try.prog 74 [.int .i64 p0, .slice pA1 p1.length pc1] w (RetS w [] φ (fun φ_ L_ v => v = .tuple #[.agg (List.flatMap encI r.1.l).toArray, .int .i64 r.2] ∧ L_ = [])) := by
  unfold m_target_counted at hm
  refine Gv.of Try.func74 rfl Try.ntmps74 Try.results74 rfl ?_
  refine CK.seq ?_
  refine CK.reg (ks := []) (.fx 0 (.fl 1 (.nil)) .stop) rfl ?_
  refine OKS.alloc (cs := List.flatMap encI (Arr.fill 81 0).l) rfl rfl rfl rfl rfl Try.zeroValue136 rfl hS ?_
  intro W1 b2 hS3
  have hS5 : St ⟨w, [], φ⟩ φ [.blk b2 136 (List.flatMap encI (Arr.fill 81 0).l)] W1 := hS3
  refine OKS.r rfl rfl rfl rfl (fun _ => Runs.as rfl rfl) ?_
  refine OKS.e ?_
  refine thenQ_n ?_
  refine CK.seq ?_
  refine CK.seq ?_
  refine CK.reg (ks := []) (.fl 0 (.fl 1 (.fx 2 (.fl 3 (.nil)) .stop))) rfl ?_
  refine OKS.r rfl rfl rfl rfl (fun _ => Runs.mv rfl rfl) ?_
  refine OKS.r rfl rfl rfl rfl (fun _ => Runs.mv rfl rfl) ?_
  obtain ⟨x6, h7, hm8⟩ := bnd hm
  refine OKS.callH 0 rfl rfl rfl rfl (Enters.mk rfl rfl Try.call27 (mapcons rfl (mapcons rfl mapnil)) rfl) hS5 (fun hs => w_target_CheckSheets p0 p1 pA1 pc1 W1 φ hs ha0 h7) (.inr rfl) ?_
  rintro φ9 L10 v11 W12 le13 hS14 ⟨rfl, rfl⟩
  have hS15 : St ⟨w, [], φ⟩ φ9 [.blk b2 136 (List.flatMap encI (Arr.fill 81 0).l)] W12 := hS14
  refine OKS.r rfl rfl rfl rfl (fun _ => Runs.as rfl rfl) ?_
  refine OKS.e ?_
  refine thenQ_n ?_
  refine CK.seq ?_
  refine CK.reg (ks := []) (.fl 0 (.fl 1 (.nil))) rfl ?_
  refine OKS.r rfl rfl rfl rfl (fun _ => Runs.mv rfl rfl) ?_
  refine OKS.r rfl rfl rfl rfl (fun _ => Runs.neq rfl rfl rfl) ?_
  refine OKS.e ?_
  refine thenQ_n ?_
  by_cases c16 : x6 = 0
  · have hm17 := hm8; rw [if_pos c16] at hm17; replace c16 := Hid.mk c16
    refine CK.condF (decF (fun h => h c16.out)) ?_
    refine CK.skip ?_
    refine thenQ_n ?_
    refine CK.seq ?_
    refine CK.reg (ks := []) (.fl 0 (.fl 1 (.fl 2 (.fx 3 (.fx 4 (.fl 5 (.fl 6 (.fl 7 (.fx 8 (.fx 9 (.fl 10 (.nil)) .stop) .stop)))) .stop) .stop)))) rfl ?_
    refine OKS.r rfl rfl rfl rfl (fun _ => Runs.mv rfl rfl) ?_
    refine OKS.r rfl rfl rfl rfl (fun _ => Runs.mv rfl rfl) ?_
    refine OKS.r rfl rfl rfl rfl (fun _ => Runs.mv rfl rfl) ?_
    have h18 := ha0.le le13
    obtain ⟨x19, h20, hm21⟩ := bnd hm17
    refine OKS.callH 0 rfl rfl rfl rfl (Enters.mk rfl rfl Try.call77 (mapcons rfl (mapcons rfl (mapcons rfl mapnil))) rfl) hS15 (fun hs => w_target_links p0 p1 pA1 pc1 [] none 0 W12 φ9 hs h18 (by first | exact Sl.nil _ _ _ _ | exact SlR.nil) h20) (.inr rfl) ?_
    rintro φ22 L23 v24 W25 le26 hS27 ⟨A28, c29, c30, rfl, rfl, h32⟩
    have hS33 : St ⟨w, [], φ⟩ φ22 [.row A28 c29 189 5 c30, .blk b2 136 (List.flatMap encI (Arr.fill 81 0).l)] W25 := hS27
    obtain ⟨φ34, le35, hs36, hS37⟩ := hS33.freezeRR (R := rl189) (k := 0) rfl h32 rfl (by decide)
    have hS38 : St ⟨w, [], φ⟩ φ34 [.blk b2 136 (List.flatMap encI (Arr.fill 81 0).l)] W25 := hS37
    obtain ⟨⟨x39, x40⟩, h41, hm42⟩ := bnd hm21
    try dsimp only at hm42
    refine OKS.callH 0 rfl rfl rfl rfl (Enters.mk rfl rfl Try.call76 (mapcons rfl (mapcons rfl mapnil)) rfl) hS38 (fun hs => w_target_distances p0 x19 A28 c29 W25 φ34 hs hs36 h41) (.inr rfl) ?_
    rintro φ43 L44 v45 W46 le47 hS48 ⟨rfl, rfl⟩
    have hS49 : St ⟨w, [], φ⟩ φ43 [.blk b2 136 (List.flatMap encI (Arr.fill 81 0).l)] W46 := hS48
    refine OKS.r rfl rfl rfl rfl (fun _ => Runs.mv rfl rfl) ?_
    refine OKS.r rfl rfl rfl rfl (fun _ => Runs.ext rfl rfl (v := .agg (List.flatMap encI x39.l).toArray) rfl) ?_
    refine OKS.r rfl rfl rfl rfl (fun _ => Runs.ext rfl rfl (v := .bool x40) rfl) ?_
    refine OKS.alloc (cs := List.flatMap encI (Arr.fill 81 0).l) rfl rfl rfl rfl rfl Try.zeroValue136 rfl hS49 ?_
    intro W50 b51 hS52
    have hS54 : St ⟨w, [], φ⟩ φ43 [.blk b51 136 (List.flatMap encI (Arr.fill 81 0).l), .blk b2 136 (List.flatMap encI (Arr.fill 81 0).l)] W50 := hS52
    refine OKS.st (j := 0) (vs := List.flatMap encI x39.l) rfl rfl rfl rfl hS54 rfl rfl rfl rfl (fun w => by rw [whole_len (f := encI) (sz := 1) (N := 81) x39 (fun _ => rfl) rfl]; exact Try.sizeOf136 w) (by rw [whole_len (f := encI) (sz := 1) (N := 81) x39 (fun _ => rfl) rfl, whole_len (f := encI) (sz := 1) (N := 81) (Arr.fill 81 0) (fun _ => rfl) rfl]; exact Nat.le_of_ble_eq_true rfl) (all_one_flat (fun _ => rfl) _) (setN_all _ _ (by rw [whole_len (f := encI) (sz := 1) (N := 81) x39 (fun _ => rfl) rfl, whole_len (f := encI) (sz := 1) (N := 81) (Arr.fill 81 0) (fun _ => rfl) rfl])) rfl ?_
    intro W55 hS56
    have hS57 : St ⟨w, [], φ⟩ φ43 [.blk b51 136 (List.flatMap encI x39.l), .blk b2 136 (List.flatMap encI (Arr.fill 81 0).l)] W55 := hS56
    refine OKS.r rfl rfl rfl rfl (fun _ => Runs.as rfl rfl) ?_
    refine OKS.e ?_
    refine thenQ_n ?_
    refine CK.seq ?_
    refine CK.seq ?_
    refine CK.reg (ks := []) (.fl 0 (.fl 1 (.nil))) rfl ?_
    refine OKS.r rfl rfl rfl rfl (fun _ => Runs.mv rfl rfl) ?_
    refine OKS.r rfl rfl rfl rfl (fun _ => Runs.notT rfl rfl) ?_
    refine OKS.e ?_
    refine thenQ_n ?_
    by_cases c58 : x40 = true
    · have hm59 := hm42; rw [if_pos c58] at hm59; replace c58 := Hid.mk c58
      refine CK.condF (congrArg (fun b => Value.bool (!b)) c58.out) ?_
      refine CK.skip ?_
      refine thenQ_n ?_
      refine CK.seq ?_
      refine CK.reg (ks := []) (.fl 0 (.fx 1 (.fl 2 (.nil)) .stop)) rfl ?_
      refine OKS.m rfl rfl rfl rfl (hS57.ldBA (j := 0) rfl rfl rfl Try.isAgg136 Try.sizeOf136 (vs := List.flatMap encI x39.l) (whole x39 (fun _ => rfl) rfl) (whole_len x39 (fun _ => rfl) rfl)) rfl ?_
      refine OKS.st (j := 1) (vs := List.flatMap encI x39.l) rfl rfl rfl rfl hS57 rfl rfl rfl rfl (fun w => by rw [whole_len (f := encI) (sz := 1) (N := 81) x39 (fun _ => rfl) rfl]; exact Try.sizeOf136 w) (by rw [whole_len (f := encI) (sz := 1) (N := 81) x39 (fun _ => rfl) rfl, whole_len (f := encI) (sz := 1) (N := 81) (Arr.fill 81 0) (fun _ => rfl) rfl]; exact Nat.le_of_ble_eq_true rfl) (all_one_flat (fun _ => rfl) _) (setN_all _ _ (by rw [whole_len (f := encI) (sz := 1) (N := 81) x39 (fun _ => rfl) rfl, whole_len (f := encI) (sz := 1) (N := 81) (Arr.fill 81 0) (fun _ => rfl) rfl])) rfl ?_
      intro W60 hS61
      have hS62 : St ⟨w, [], φ⟩ φ43 [.blk b51 136 (List.flatMap encI x39.l), .blk b2 136 (List.flatMap encI x39.l)] W60 := hS61
      refine OKS.r rfl rfl rfl rfl (fun _ => Runs.as rfl rfl) ?_
      refine OKS.e ?_
      refine thenQ_n ?_
      refine CK.ret ?_
      cases hm59
      exact ⟨rfl, _, (resLn (rs := [.cell 4 136, .tmp 5]) (vs := [.agg (List.flatMap encI x39.l).toArray, .int .i64 0]) ⟨⟨_, rfl, (ldvarA Try.isAgg136 Try.sizeOf136 (hS62.blkAt (k := 1) rfl) (whole x39 (fun _ => rfl) rfl) (whole_len x39 (fun _ => rfl) rfl))⟩, ⟨rfl, trivial⟩⟩ rfl), φ43, _, (hS62.pick [] _ (by decide) rfl), rfl, rfl⟩
    · have hm63 := hm42; rw [if_neg c58] at hm63; replace c58 := Hid.mk c58
      refine CK.condT (congrArg (fun b => Value.bool (!b)) (Bool.eq_false_iff.2 c58.out)) ?_
      refine CK.seq ?_
      refine CK.reg (ks := []) (.fl 0 (.fx 1 (.fl 2 (.nil)) .stop)) rfl ?_
      refine OKS.m rfl rfl rfl rfl (hS57.ldBA (j := 0) rfl rfl rfl Try.isAgg136 Try.sizeOf136 (vs := List.flatMap encI x39.l) (whole x39 (fun _ => rfl) rfl) (whole_len x39 (fun _ => rfl) rfl)) rfl ?_
      refine OKS.st (j := 1) (vs := List.flatMap encI x39.l) rfl rfl rfl rfl hS57 rfl rfl rfl rfl (fun w => by rw [whole_len (f := encI) (sz := 1) (N := 81) x39 (fun _ => rfl) rfl]; exact Try.sizeOf136 w) (by rw [whole_len (f := encI) (sz := 1) (N := 81) x39 (fun _ => rfl) rfl, whole_len (f := encI) (sz := 1) (N := 81) (Arr.fill 81 0) (fun _ => rfl) rfl]; exact Nat.le_of_ble_eq_true rfl) (all_one_flat (fun _ => rfl) _) (setN_all _ _ (by rw [whole_len (f := encI) (sz := 1) (N := 81) x39 (fun _ => rfl) rfl, whole_len (f := encI) (sz := 1) (N := 81) (Arr.fill 81 0) (fun _ => rfl) rfl])) rfl ?_
      intro W64 hS65
      have hS66 : St ⟨w, [], φ⟩ φ43 [.blk b51 136 (List.flatMap encI x39.l), .blk b2 136 (List.flatMap encI x39.l)] W64 := hS65
      refine OKS.r rfl rfl rfl rfl (fun _ => Runs.as rfl rfl) ?_
      refine OKS.e ?_
      refine thenQ_n ?_
      refine CK.ret ?_
      refine thenQ_r ?_
      cases hm63
      exact ⟨rfl, _, (resLn (rs := [.cell 4 136, .tmp 5]) (vs := [.agg (List.flatMap encI x39.l).toArray, .int .i64 7]) ⟨⟨_, rfl, (ldvarA Try.isAgg136 Try.sizeOf136 (hS66.blkAt (k := 1) rfl) (whole x39 (fun _ => rfl) rfl) (whole_len x39 (fun _ => rfl) rfl))⟩, ⟨rfl, trivial⟩⟩ rfl), φ43, _, (hS66.pick [] _ (by decide) rfl), rfl, rfl⟩
  · have hm67 := hm8; rw [if_neg c16] at hm67; replace c16 := Hid.mk c16
    refine CK.condT (decT c16.out) ?_
    refine CK.seq ?_
    refine CK.reg (ks := []) (.fl 0 (.fl 1 (.fx 2 (.fl 3 (.nil)) .stop))) rfl ?_
    refine OKS.r rfl rfl rfl rfl (fun _ => Runs.to (Runs.buildA (pv := []) (z := [.int .i64 0, .int .i64 0, .int .i64 0, .int .i64 0, .int .i64 0, .int .i64 0, .int .i64 0, .int .i64 0, .int .i64 0, .int .i64 0, .int .i64 0, .int .i64 0, .int .i64 0, .int .i64 0, .int .i64 0, .int .i64 0, .int .i64 0, .int .i64 0, .int .i64 0, .int .i64 0, .int .i64 0, .int .i64 0, .int .i64 0, .int .i64 0, .int .i64 0, .int .i64 0, .int .i64 0, .int .i64 0, .int .i64 0, .int .i64 0, .int .i64 0, .int .i64 0, .int .i64 0, .int .i64 0, .int .i64 0, .int .i64 0, .int .i64 0, .int .i64 0, .int .i64 0, .int .i64 0, .int .i64 0, .int .i64 0, .int .i64 0, .int .i64 0, .int .i64 0, .int .i64 0, .int .i64 0, .int .i64 0, .int .i64 0, .int .i64 0, .int .i64 0, .int .i64 0, .int .i64 0, .int .i64 0, .int .i64 0, .int .i64 0, .int .i64 0, .int .i64 0, .int .i64 0, .int .i64 0, .int .i64 0, .int .i64 0, .int .i64 0, .int .i64 0, .int .i64 0, .int .i64 0, .int .i64 0, .int .i64 0, .int .i64 0, .int .i64 0, .int .i64 0, .int .i64 0, .int .i64 0, .int .i64 0, .int .i64 0, .int .i64 0, .int .i64 0, .int .i64 0, .int .i64 0, .int .i64 0, .int .i64 0]) (cs := [.int .i64 0, .int .i64 0, .int .i64 0, .int .i64 0, .int .i64 0, .int .i64 0, .int .i64 0, .int .i64 0, .int .i64 0, .int .i64 0, .int .i64 0, .int .i64 0, .int .i64 0, .int .i64 0, .int .i64 0, .int .i64 0, .int .i64 0, .int .i64 0, .int .i64 0, .int .i64 0, .int .i64 0, .int .i64 0, .int .i64 0, .int .i64 0, .int .i64 0, .int .i64 0, .int .i64 0, .int .i64 0, .int .i64 0, .int .i64 0, .int .i64 0, .int .i64 0, .int .i64 0, .int .i64 0, .int .i64 0, .int .i64 0, .int .i64 0, .int .i64 0, .int .i64 0, .int .i64 0, .int .i64 0, .int .i64 0, .int .i64 0, .int .i64 0, .int .i64 0, .int .i64 0, .int .i64 0, .int .i64 0, .int .i64 0, .int .i64 0, .int .i64 0, .int .i64 0, .int .i64 0, .int .i64 0, .int .i64 0, .int .i64 0, .int .i64 0, .int .i64 0, .int .i64 0, .int .i64 0, .int .i64 0, .int .i64 0, .int .i64 0, .int .i64 0, .int .i64 0, .int .i64 0, .int .i64 0, .int .i64 0, .int .i64 0, .int .i64 0, .int .i64 0, .int .i64 0, .int .i64 0, .int .i64 0, .int .i64 0, .int .i64 0, .int .i64 0, .int .i64 0, .int .i64 0, .int .i64 0, .int .i64 0]) rfl mapnil2 Try.zeroValue136 Try.runUnderlying136 Try.sizeOf135 rfl rfl) (congrArg (fun l : List Value => Value.agg l.toArray) (show _ = List.flatMap encI (Arr.fill 81 0).l from rfl))) ?_
    refine OKS.r rfl rfl rfl rfl (fun _ => Runs.mv rfl rfl) ?_
    refine OKS.st (j := 0) (vs := List.flatMap encI (Arr.fill 81 0).l) rfl rfl rfl rfl hS15 rfl rfl rfl rfl (fun w => by rw [whole_len (f := encI) (sz := 1) (N := 81) (Arr.fill 81 0) (fun _ => rfl) rfl]; exact Try.sizeOf136 w) (by rw [whole_len (f := encI) (sz := 1) (N := 81) (Arr.fill 81 0) (fun _ => rfl) rfl]; exact Nat.le_of_ble_eq_true rfl) (all_one_flat (fun _ => rfl) _) (setN_all _ _ (by rw [whole_len (f := encI) (sz := 1) (N := 81) (Arr.fill 81 0) (fun _ => rfl) rfl])) rfl ?_
    intro W68 hS69
    have hS70 : St ⟨w, [], φ⟩ φ9 [.blk b2 136 (List.flatMap encI (Arr.fill 81 0).l)] W68 := hS69
    refine OKS.r rfl rfl rfl rfl (fun _ => Runs.as rfl rfl) ?_
    refine OKS.e ?_
    refine thenQ_n ?_
    refine CK.ret ?_
    refine thenQ_r ?_
    cases hm67
    exact ⟨rfl, _, (resLn (rs := [.cell 4 136, .tmp 5]) (vs := [.agg (List.flatMap encI (Arr.fill 81 0).l).toArray, .int .i64 x6]) ⟨⟨_, rfl, (ldvarA Try.isAgg136 Try.sizeOf136 (hS70.blkAt (k := 0) rfl) (whole (Arr.fill 81 0) (fun _ => rfl) rfl) (whole_len (Arr.fill 81 0) (fun _ => rfl) rfl))⟩, ⟨rfl, trivial⟩⟩ rfl), φ9, _, (hS70.pick [] _ (by decide) rfl), rfl, rfl⟩

set_option maxHeartbeats 4000000 in
theorem w_target_Between (p0 : Int) (p1 : List T_target_Sheet) (pA1 : Option Addr) (pc1 : Nat) (p2 : Int) (p3 : Int) (w : World) (φ : PHeap) (hS : St ⟨w, [], φ⟩ φ [] w) (ha0 : Sl φ 4 pA1 pc1 p1.length (List.flatMap encT_target_Sheet p1)) {r : T_api_Span × Int} (hm : m_target_Between p0 p1 p2 p3 = some r) : Gv Try.prog 28 [.int .i64 p0, .slice pA1 p1.length pc1, .int .i64 p2, .int .i64 p3] w (RetS w [] φ (fun φ_ L_ v => v = .tuple #[.agg #[.int .i64 r.1.Lo, .int .i64 r.1.Hi], .int .i64 r.2] ∧ L_ = [])) := by
  unfold m_target_Between at hm
  refine Gv.of Try.func28 rfl Try.ntmps28 Try.results28 rfl ?_
  refine CK.seq ?_
  refine CK.reg (ks := []) (.fx 0 (.fl 1 (.nil)) .stop) rfl ?_
  refine OKS.alloc (cs := [.int .i64 0, .int .i64 0]) rfl rfl rfl rfl rfl Try.zeroValue31 rfl hS ?_
  intro W1 b2 hS3
  refine OKS.r rfl rfl rfl rfl (fun _ => Runs.as rfl rfl) ?_
  refine OKS.e ?_
  refine thenQ_n ?_
  refine CK.seq ?_
  refine CK.reg (ks := []) (.fl 0 (.fl 1 (.fx 2 (.fl 3 (.fl 4 (.fl 5 (.fx 6 (.fx 7 (.fl 8 (.nil)) .stop) .stop)))) .stop))) rfl ?_
  refine OKS.r rfl rfl rfl rfl (fun _ => Runs.mv rfl rfl) ?_
  refine OKS.r rfl rfl rfl rfl (fun _ => Runs.mv rfl rfl) ?_
  obtain ⟨⟨x5, x6⟩, h7, hm8⟩ := bnd hm
  try dsimp only at hm8
  refine OKS.callH 0 rfl rfl rfl rfl (Enters.mk rfl rfl Try.call74 (mapcons rfl (mapcons rfl mapnil)) rfl) hS3 (fun hs => w_target_counted p0 p1 pA1 pc1 W1 φ hs ha0 h7) (.inr rfl) ?_
  rintro φ9 L10 v11 W12 le13 hS14 ⟨rfl, rfl⟩
  have hS15 : St ⟨w, [], φ⟩ φ9 [.blk b2 31 [.int .i64 0, .int .i64 0]] W12 := hS14
  refine OKS.r rfl rfl rfl rfl (fun _ => Runs.mv rfl rfl) ?_
  refine OKS.r rfl rfl rfl rfl (fun _ => Runs.ext rfl rfl (v := .agg (List.flatMap encI x5.l).toArray) rfl) ?_
  refine OKS.r rfl rfl rfl rfl (fun _ => Runs.ext rfl rfl (v := .int .i64 x6) rfl) ?_
  refine OKS.alloc (cs := List.flatMap encI (Arr.fill 81 0).l) rfl rfl rfl rfl rfl Try.zeroValue136 rfl hS15 ?_
  intro W16 b17 hS18
  have hS20 : St ⟨w, [], φ⟩ φ9 [.blk b17 136 (List.flatMap encI (Arr.fill 81 0).l), .blk b2 31 [.int .i64 0, .int .i64 0]] W16 := hS18
  refine OKS.st (j := 0) (vs := List.flatMap encI x5.l) rfl rfl rfl rfl hS20 rfl rfl rfl rfl (fun w => by rw [whole_len (f := encI) (sz := 1) (N := 81) x5 (fun _ => rfl) rfl]; exact Try.sizeOf136 w) (by rw [whole_len (f := encI) (sz := 1) (N := 81) x5 (fun _ => rfl) rfl, whole_len (f := encI) (sz := 1) (N := 81) (Arr.fill 81 0) (fun _ => rfl) rfl]; exact Nat.le_of_ble_eq_true rfl) (all_one_flat (fun _ => rfl) _) (setN_all _ _ (by rw [whole_len (f := encI) (sz := 1) (N := 81) x5 (fun _ => rfl) rfl, whole_len (f := encI) (sz := 1) (N := 81) (Arr.fill 81 0) (fun _ => rfl) rfl])) rfl ?_
  intro W21 hS22
  have hS23 : St ⟨w, [], φ⟩ φ9 [.blk b17 136 (List.flatMap encI x5.l), .blk b2 31 [.int .i64 0, .int .i64 0]] W21 := hS22
  refine OKS.r rfl rfl rfl rfl (fun _ => Runs.as rfl rfl) ?_
  refine OKS.e ?_
  refine thenQ_n ?_
  refine CK.seq ?_
  obtain ⟨b24, hx26, hm27⟩ := bnd hm8
  refine CK.cut (fun σ_ w_ => ∃ (φ_ : PHeap), σ_ 0 = .int .i64 p0 ∧ σ_ 2 = .int .i64 p2 ∧ σ_ 3 = .int .i64 p3 ∧ σ_ 8 = .pointer (some ⟨b2, 0, none⟩) ∧ σ_ 10 = .pointer (some ⟨b17, 0, none⟩) ∧ σ_ 11 = .int .i64 x6 ∧ σ_ 23 = .bool b24 ∧ PHeap.Le φ9 φ_ ∧ St ⟨w, [], φ⟩ φ_ [.blk b17 136 (List.flatMap encI x5.l), .blk b2 31 [.int .i64 0, .int .i64 0]] w_) ?_ ?_
  · refine CK.reg (ks := []) (.fl 0 (.fl 1 (.fl 2 (.fl 3 (.fl 4 (.fl 5 (.nil))))))) rfl ?_
    refine OKS.r rfl rfl rfl rfl (fun _ => Runs.mv rfl rfl) ?_
    refine OKS.r rfl rfl rfl rfl (fun _ => Runs.eql rfl rfl rfl) ?_
    refine OKS.r rfl rfl rfl rfl (fun _ => Runs.mv rfl rfl) ?_
    by_cases c28 : x6 = 0
    · have hm29 := hx26; rw [if_pos c28] at hm29; replace c28 := Hid.mk c28
      refine OKS.p rfl rfl rfl (wantedN rfl rfl (decT c28.out) rfl) ?_
      refine OKS.p rfl rfl rfl (wantedN rfl rfl (decT c28.out) rfl) ?_
      refine OKS.r rfl rfl rfl rfl (fun _ => Runs.pickT rfl (decT c28.out) rfl) ?_
      refine OKS.e ?_
      cases hm29
      exact thenQ_n ⟨rfl, ⟨φ9, rfl, rfl, rfl, rfl, rfl, rfl, rfl, (PHeap.Le.refl _), hS23⟩⟩
    · have hm31 := hx26; rw [if_neg c28] at hm31; replace c28 := Hid.mk c28
      refine OKS.r rfl rfl rfl (wantedY rfl rfl (decF c28.out)) (fun _ => Runs.mv rfl rfl) ?_
      refine OKS.r rfl rfl rfl (wantedY rfl rfl (decF c28.out)) (fun _ => Runs.eql rfl rfl rfl) ?_
      refine OKS.r rfl rfl rfl rfl (fun _ => Runs.pickF rfl (decF c28.out) rfl) ?_
      refine OKS.e ?_
      cases hm31
      exact thenQ_n ⟨rfl, ⟨φ9, rfl, rfl, rfl, rfl, rfl, rfl, rfl, (PHeap.Le.refl _), hS23⟩⟩
  · rintro σ33 W34 ⟨φ35, f38, f39, f40, f41, f42, f43, f44, le36, hS37⟩
    by_cases c45 : b24 = true
    · have hm46 := hm27; rw [if_pos c45] at hm46; replace c45 := Hid.mk c45
      refine CK.condT (f44.trans (congrArg Value.bool c45.out)) ?_
      obtain ⟨b47, hx49, hm50⟩ := bnd hm46
      refine CK.cut (fun σ_ w_ => ∃ (φ_ : PHeap), σ_ 2 = .int .i64 p2 ∧ σ_ 3 = .int .i64 p3 ∧ σ_ 8 = .pointer (some ⟨b2, 0, none⟩) ∧ σ_ 10 = .pointer (some ⟨b17, 0, none⟩) ∧ σ_ 11 = .int .i64 x6 ∧ σ_ 32 = .bool b47 ∧ PHeap.Le φ35 φ_ ∧ St ⟨w, [], φ⟩ φ_ [.blk b17 136 (List.flatMap encI x5.l), .blk b2 31 [.int .i64 0, .int .i64 0]] w_) ?_ ?_
      · refine CK.reg (ks := []) (.fl 0 (.fl 1 (.fx 2 (.fl 3 (.fl 4 (.fl 5 (.fl 6 (.fl 7 (.fl 8 (.nil))))))) .stop))) rfl ?_
        refine OKS.r rfl rfl rfl rfl (fun _ => Runs.mv rfl f39) ?_
        refine OKS.r rfl rfl rfl rfl (fun _ => Runs.mv rfl f40) ?_
        obtain ⟨x51, h52, hm53⟩ := bnd hx49
        refine OKS.callH 0 rfl rfl rfl rfl (Enters.mk rfl rfl Try.call82 (mapcons rfl (mapcons rfl (mapcons rfl mapnil))) rfl) hS37 (fun hs => w_target_within p2 0 p3 W34 φ35 hs h52) (.inr rfl) ?_
        rintro φ54 L55 v56 W57 le58 hS59 ⟨rfl, rfl⟩
        have hS60 : St ⟨w, [], φ⟩ φ54 [.blk b17 136 (List.flatMap encI x5.l), .blk b2 31 [.int .i64 0, .int .i64 0]] W57 := hS59
        refine OKS.r rfl rfl rfl rfl (fun _ => Runs.notT rfl rfl) ?_
        refine OKS.r rfl rfl rfl rfl (fun _ => Runs.mv rfl rfl) ?_
        by_cases c61 : x51 = true
        · have hm62 := hm53; rw [if_pos c61] at hm62; replace c61 := Hid.mk c61
          refine OKS.r rfl rfl rfl (wantedY rfl rfl (congrArg (fun b => Value.bool (!b)) c61.out)) (fun _ => Runs.mv rfl f40) ?_
          refine OKS.r rfl rfl rfl (wantedY rfl rfl (congrArg (fun b => Value.bool (!b)) c61.out)) (fun _ => Runs.mv rfl f38) ?_
          refine OKS.r rfl rfl rfl (wantedY rfl rfl (congrArg (fun b => Value.bool (!b)) c61.out)) (fun _ => Runs.geq rfl rfl rfl) ?_
          refine OKS.r rfl rfl rfl rfl (fun _ => Runs.pickF rfl (congrArg (fun b => Value.bool (!b)) c61.out) rfl) ?_
          refine OKS.e ?_
          cases hm62
          exact thenQ_n ⟨rfl, ⟨φ54, f39, f40, f41, f42, f43, rfl, le58, hS60⟩⟩
        · have hm64 := hm53; rw [if_neg c61] at hm64; replace c61 := Hid.mk c61
          refine OKS.p rfl rfl rfl (wantedN rfl rfl (congrArg (fun b => Value.bool (!b)) (Bool.eq_false_iff.2 c61.out)) rfl) ?_
          refine OKS.p rfl rfl rfl (wantedN rfl rfl (congrArg (fun b => Value.bool (!b)) (Bool.eq_false_iff.2 c61.out)) rfl) ?_
          refine OKS.p rfl rfl rfl (wantedN rfl rfl (congrArg (fun b => Value.bool (!b)) (Bool.eq_false_iff.2 c61.out)) rfl) ?_
          refine OKS.r rfl rfl rfl rfl (fun _ => Runs.pickT rfl (congrArg (fun b => Value.bool (!b)) (Bool.eq_false_iff.2 c61.out)) rfl) ?_
          refine OKS.e ?_
          cases hm64
          exact thenQ_n ⟨rfl, ⟨φ54, f39, f40, f41, f42, f43, rfl, le58, hS60⟩⟩
      · rintro σ66 W67 ⟨φ68, f71, f72, f73, f74, f75, f76, le69, hS70⟩
        by_cases c77 : b47 = true
        · have hm78 := hm50; rw [if_pos c77] at hm78; replace c77 := Hid.mk c77
          refine CK.condT (f76.trans (congrArg Value.bool c77.out)) ?_
          refine CK.reg (ks := []) (.fl 0 (.nil)) rfl ?_
          refine OKS.r rfl rfl rfl rfl (fun _ => Runs.as rfl rfl) ?_
          refine OKS.e ?_
          refine thenQ_n ?_
          refine CK.seq ?_
          refine CK.seq ?_
          refine CK.reg (ks := []) (.fl 0 (.fl 1 (.nil))) rfl ?_
          refine OKS.r rfl rfl rfl rfl (fun _ => Runs.mv rfl rfl) ?_
          refine OKS.r rfl rfl rfl rfl (fun _ => Runs.neq rfl rfl rfl) ?_
          refine OKS.e ?_
          refine thenQ_n ?_
          refine CK.condT (decT (by decide)) ?_
          refine CK.seq ?_
          refine CK.reg (ks := []) (.fl 0 (.fl 1 (.fx 2 (.fl 3 (.nil)) .stop))) rfl ?_
          refine OKS.r rfl rfl rfl rfl (fun _ => Runs.build (pv := []) (z := [.int .i64 0, .int .i64 0]) (cs := [.int .i64 0, .int .i64 0]) rfl mapnil2 Try.zeroValue31 places31 rfl rfl) ?_
          refine OKS.r rfl rfl rfl rfl (fun _ => Runs.mv rfl rfl) ?_
          refine OKS.st (j := 1) (vs := [.int .i64 0, .int .i64 0]) rfl rfl rfl rfl hS70 rfl f73 rfl rfl Try.sizeOf31 (Nat.le_of_ble_eq_true rfl) rfl rfl rfl ?_
          intro W79 hS80
          have hS81 : St ⟨w, [], φ⟩ φ68 [.blk b17 136 (List.flatMap encI x5.l), .blk b2 31 [.int .i64 0, .int .i64 0]] W79 := hS80
          refine OKS.r rfl rfl rfl rfl (fun _ => Runs.as rfl rfl) ?_
          refine OKS.e ?_
          refine thenQ_n ?_
          refine CK.ret ?_
          refine thenQ_r ?_
          cases hm78
          exact ⟨rfl, _, (resLn (rs := [.cell 8 31, .tmp 9]) (vs := [.agg #[.int .i64 0, .int .i64 0], .int .i64 1]) ⟨⟨_, f73, (ldvarA Try.isAgg31 Try.sizeOf31 (hS81.blkAt (k := 1) rfl) (vs := [.int .i64 0, .int .i64 0]) rfl rfl)⟩, ⟨rfl, trivial⟩⟩ rfl), φ68, _, (hS81.pick [] _ (by decide) rfl), rfl, rfl⟩
        · have hm82 := hm50; rw [if_neg c77] at hm82; replace c77 := Hid.mk c77
          refine CK.condF (f76.trans (congrArg Value.bool (Bool.eq_false_iff.2 c77.out))) ?_
          refine CK.skip ?_
          refine thenQ_n ?_
          refine CK.seq ?_
          refine CK.seq ?_
          refine CK.reg (ks := []) (.fl 0 (.fl 1 (.nil))) rfl ?_
          refine OKS.r rfl rfl rfl rfl (fun _ => Runs.mv rfl f75) ?_
          refine OKS.r rfl rfl rfl rfl (fun _ => Runs.neq rfl rfl rfl) ?_
          refine OKS.e ?_
          refine thenQ_n ?_
          by_cases c83 : x6 = 0
          · have hm84 := hm82; rw [if_pos c83] at hm84; replace c83 := Hid.mk c83
            refine CK.condF (decF (fun h => h c83.out)) ?_
            refine CK.skip ?_
            refine thenQ_n ?_
            refine CK.seq ?_
            refine CK.anyOrd Try.mixed [3, 3, 3, 3, 3, 1, 3, 3, 3, 3, 3, 3, 1, 3, 0, 3] (.fl 0 (.fl 1 (.fl 2 (.fl 3 (.fl 4 (.fl 5 (.fl 6 (.fl 7 (.fl 8 (.fl 9 (.fl 10 (.fl 11 (.fl 12 (.fl 13 (.fx 14 (.fl 15 (.nil)) .stop))))))))))))))) (by kernel_rfl) ?_
            have hS85 := hS70.drew
            generalize hw_W86 : ({ W67 with drawn := W67.drawn + 1 } : World) = W86 at hS85 ⊢
            refine OKS.r rfl rfl rfl rfl (fun _ => Runs.mv rfl f72) ?_
            refine OKS.r rfl rfl rfl rfl (fun _ => Runs.addw rfl rfl rfl) ?_
            refine OKS.r rfl rfl rfl rfl (fun _ => Runs.mv rfl f71) ?_
            obtain ⟨_, h87, hm88⟩ := bnd hm84
            refine OKS.r rfl rfl rfl rfl (fun _ => Runs.iaA rfl f74 rfl Try.runUnderlying136 Try.sizeOf135 (chk_lo h87) (chk_hi h87)) ?_
            obtain ⟨_, h89, hm90⟩ := bnd hm88
            refine OKS.r rfl rfl rfl rfl (fun _ => Runs.iaA rfl rfl rfl Try.runUnderlying135 Try.sizeOf3 (chk_lo h89) (chk_hi h89)) ?_
            have hg91 := Arr.at_ x5 (k := ((w64 (p3 + 1)).toNat * 9 + p2.toNat)) (by have hz0 := chk_lt h87; have hz1 := chk_lt h89; omega)
            refine OKS.m rfl rfl rfl rfl (hS85.ldB (j := 0) rfl rfl rfl Try.isAgg3 (flatMap_cell (sz := 1) (fun _ => rfl) _ _ 0 _ hg91 (by omega) rfl)) rfl ?_
            refine OKS.r rfl rfl rfl rfl (fun _ => Runs.negw rfl rfl) ?_
            refine OKS.r rfl rfl rfl rfl (fun _ => Runs.mv rfl f71) ?_
            refine OKS.r rfl rfl rfl rfl (fun _ => Runs.mv rfl f72) ?_
            refine OKS.r rfl rfl rfl rfl (fun _ => Runs.addw rfl rfl rfl) ?_
            refine OKS.r rfl rfl rfl rfl (fun _ => Runs.iaA rfl f74 rfl Try.runUnderlying136 Try.sizeOf135 (chk_lo h89) (chk_hi h89)) ?_
            refine OKS.r rfl rfl rfl rfl (fun _ => Runs.iaA rfl rfl rfl Try.runUnderlying135 Try.sizeOf3 (chk_lo h87) (chk_hi h87)) ?_
            have hg92 := Arr.at_ x5 (k := (p2.toNat * 9 + (w64 (p3 + 1)).toNat)) (by have hz0 := chk_lt h89; have hz1 := chk_lt h87; omega)
            refine OKS.m rfl rfl rfl rfl (hS85.ldB (j := 0) rfl rfl rfl Try.isAgg3 (flatMap_cell (sz := 1) (fun _ => rfl) _ _ 0 _ hg92 (by omega) rfl)) rfl ?_
            refine OKS.r rfl rfl rfl rfl (fun _ => Runs.build (pv := [(0, .int .i64 (w64 (-(x5.get ((w64 (p3 + 1)).toNat * 9 + p2.toNat))))), (1, .int .i64 (x5.get (p2.toNat * 9 + (w64 (p3 + 1)).toNat)))]) (z := [.int .i64 0, .int .i64 0]) (cs := [.int .i64 (w64 (-(x5.get ((w64 (p3 + 1)).toNat * 9 + p2.toNat)))), .int .i64 (x5.get (p2.toNat * 9 + (w64 (p3 + 1)).toNat))]) rfl (mapcons2 rfl (mapcons2 rfl mapnil2)) Try.zeroValue31 places31 rfl rfl) ?_
            refine OKS.st (j := 1) (vs := [.int .i64 (w64 (-(x5.get ((w64 (p3 + 1)).toNat * 9 + p2.toNat)))), .int .i64 (x5.get (p2.toNat * 9 + (w64 (p3 + 1)).toNat))]) rfl rfl rfl rfl hS85 rfl f73 rfl rfl Try.sizeOf31 (Nat.le_of_ble_eq_true rfl) rfl rfl rfl ?_
            intro W93 hS94
            have hS95 : St ⟨w, [], φ⟩ φ68 [.blk b17 136 (List.flatMap encI x5.l), .blk b2 31 [.int .i64 (w64 (-(x5.get ((w64 (p3 + 1)).toNat * 9 + p2.toNat)))), .int .i64 (x5.get (p2.toNat * 9 + (w64 (p3 + 1)).toNat))]] W93 := hS94
            refine OKS.r rfl rfl rfl rfl (fun _ => Runs.as rfl rfl) ?_
            refine OKS.e ?_
            refine thenQ_n ?_
            refine CK.ret ?_
            cases hm90
            exact ⟨rfl, _, (resLn (rs := [.cell 8 31, .tmp 9]) (vs := [.agg #[.int .i64 (w64 (-(x5.get ((w64 (p3 + 1)).toNat * 9 + p2.toNat)))), .int .i64 (x5.get (p2.toNat * 9 + (w64 (p3 + 1)).toNat))], .int .i64 0]) ⟨⟨_, f73, (ldvarA Try.isAgg31 Try.sizeOf31 (hS95.blkAt (k := 1) rfl) (vs := [.int .i64 (w64 (-(x5.get ((w64 (p3 + 1)).toNat * 9 + p2.toNat)))), .int .i64 (x5.get (p2.toNat * 9 + (w64 (p3 + 1)).toNat))]) rfl rfl)⟩, ⟨rfl, trivial⟩⟩ rfl), φ68, _, (hS95.pick [] _ (by decide) rfl), rfl, rfl⟩
          · have hm96 := hm82; rw [if_neg c83] at hm96; replace c83 := Hid.mk c83
            refine CK.condT (decT c83.out) ?_
            refine CK.seq ?_
            refine CK.reg (ks := []) (.fl 0 (.fl 1 (.fx 2 (.fl 3 (.nil)) .stop))) rfl ?_
            refine OKS.r rfl rfl rfl rfl (fun _ => Runs.build (pv := []) (z := [.int .i64 0, .int .i64 0]) (cs := [.int .i64 0, .int .i64 0]) rfl mapnil2 Try.zeroValue31 places31 rfl rfl) ?_
            refine OKS.r rfl rfl rfl rfl (fun _ => Runs.mv rfl f75) ?_
            refine OKS.st (j := 1) (vs := [.int .i64 0, .int .i64 0]) rfl rfl rfl rfl hS70 rfl f73 rfl rfl Try.sizeOf31 (Nat.le_of_ble_eq_true rfl) rfl rfl rfl ?_
            intro W97 hS98
            have hS99 : St ⟨w, [], φ⟩ φ68 [.blk b17 136 (List.flatMap encI x5.l), .blk b2 31 [.int .i64 0, .int .i64 0]] W97 := hS98
            refine OKS.r rfl rfl rfl rfl (fun _ => Runs.as rfl rfl) ?_
            refine OKS.e ?_
            refine thenQ_n ?_
            refine CK.ret ?_
            refine thenQ_r ?_
            cases hm96
            exact ⟨rfl, _, (resLn (rs := [.cell 8 31, .tmp 9]) (vs := [.agg #[.int .i64 0, .int .i64 0], .int .i64 x6]) ⟨⟨_, f73, (ldvarA Try.isAgg31 Try.sizeOf31 (hS99.blkAt (k := 1) rfl) (vs := [.int .i64 0, .int .i64 0]) rfl rfl)⟩, ⟨rfl, trivial⟩⟩ rfl), φ68, _, (hS99.pick [] _ (by decide) rfl), rfl, rfl⟩
    · have hm100 := hm27; rw [if_neg c45] at hm100; replace c45 := Hid.mk c45
      refine CK.condF (f44.trans (congrArg Value.bool (Bool.eq_false_iff.2 c45.out))) ?_
      refine CK.skip ?_
      refine thenQ_n ?_
      refine CK.seq ?_
      refine CK.seq ?_
      refine CK.reg (ks := []) (.fl 0 (.fl 1 (.nil))) rfl ?_
      refine OKS.r rfl rfl rfl rfl (fun _ => Runs.mv rfl f43) ?_
      refine OKS.r rfl rfl rfl rfl (fun _ => Runs.neq rfl rfl rfl) ?_
      refine OKS.e ?_
      refine thenQ_n ?_
      by_cases c101 : x6 = 0
      · have hm102 := hm100; rw [if_pos c101] at hm102; replace c101 := Hid.mk c101
        refine CK.condF (decF (fun h => h c101.out)) ?_
        refine CK.skip ?_
        refine thenQ_n ?_
        refine CK.seq ?_
        refine CK.anyOrd Try.mixed [3, 3, 3, 3, 3, 1, 3, 3, 3, 3, 3, 3, 1, 3, 0, 3] (.fl 0 (.fl 1 (.fl 2 (.fl 3 (.fl 4 (.fl 5 (.fl 6 (.fl 7 (.fl 8 (.fl 9 (.fl 10 (.fl 11 (.fl 12 (.fl 13 (.fx 14 (.fl 15 (.nil)) .stop))))))))))))))) (by kernel_rfl) ?_
        have hS103 := hS37.drew
        generalize hw_W104 : ({ W34 with drawn := W34.drawn + 1 } : World) = W104 at hS103 ⊢
        refine OKS.r rfl rfl rfl rfl (fun _ => Runs.mv rfl f40) ?_
        refine OKS.r rfl rfl rfl rfl (fun _ => Runs.addw rfl rfl rfl) ?_
        refine OKS.r rfl rfl rfl rfl (fun _ => Runs.mv rfl f39) ?_
        obtain ⟨_, h105, hm106⟩ := bnd hm102
        refine OKS.r rfl rfl rfl rfl (fun _ => Runs.iaA rfl f42 rfl Try.runUnderlying136 Try.sizeOf135 (chk_lo h105) (chk_hi h105)) ?_
        obtain ⟨_, h107, hm108⟩ := bnd hm106
        refine OKS.r rfl rfl rfl rfl (fun _ => Runs.iaA rfl rfl rfl Try.runUnderlying135 Try.sizeOf3 (chk_lo h107) (chk_hi h107)) ?_
        have hg109 := Arr.at_ x5 (k := ((w64 (p3 + 1)).toNat * 9 + p2.toNat)) (by have hz0 := chk_lt h105; have hz1 := chk_lt h107; omega)
        refine OKS.m rfl rfl rfl rfl (hS103.ldB (j := 0) rfl rfl rfl Try.isAgg3 (flatMap_cell (sz := 1) (fun _ => rfl) _ _ 0 _ hg109 (by omega) rfl)) rfl ?_
        refine OKS.r rfl rfl rfl rfl (fun _ => Runs.negw rfl rfl) ?_
        refine OKS.r rfl rfl rfl rfl (fun _ => Runs.mv rfl f39) ?_
        refine OKS.r rfl rfl rfl rfl (fun _ => Runs.mv rfl f40) ?_
        refine OKS.r rfl rfl rfl rfl (fun _ => Runs.addw rfl rfl rfl) ?_
        refine OKS.r rfl rfl rfl rfl (fun _ => Runs.iaA rfl f42 rfl Try.runUnderlying136 Try.sizeOf135 (chk_lo h107) (chk_hi h107)) ?_
        refine OKS.r rfl rfl rfl rfl (fun _ => Runs.iaA rfl rfl rfl Try.runUnderlying135 Try.sizeOf3 (chk_lo h105) (chk_hi h105)) ?_
        have hg110 := Arr.at_ x5 (k := (p2.toNat * 9 + (w64 (p3 + 1)).toNat)) (by have hz0 := chk_lt h107; have hz1 := chk_lt h105; omega)
        refine OKS.m rfl rfl rfl rfl (hS103.ldB (j := 0) rfl rfl rfl Try.isAgg3 (flatMap_cell (sz := 1) (fun _ => rfl) _ _ 0 _ hg110 (by omega) rfl)) rfl ?_
        refine OKS.r rfl rfl rfl rfl (fun _ => Runs.build (pv := [(0, .int .i64 (w64 (-(x5.get ((w64 (p3 + 1)).toNat * 9 + p2.toNat))))), (1, .int .i64 (x5.get (p2.toNat * 9 + (w64 (p3 + 1)).toNat)))]) (z := [.int .i64 0, .int .i64 0]) (cs := [.int .i64 (w64 (-(x5.get ((w64 (p3 + 1)).toNat * 9 + p2.toNat)))), .int .i64 (x5.get (p2.toNat * 9 + (w64 (p3 + 1)).toNat))]) rfl (mapcons2 rfl (mapcons2 rfl mapnil2)) Try.zeroValue31 places31 rfl rfl) ?_
        refine OKS.st (j := 1) (vs := [.int .i64 (w64 (-(x5.get ((w64 (p3 + 1)).toNat * 9 + p2.toNat)))), .int .i64 (x5.get (p2.toNat * 9 + (w64 (p3 + 1)).toNat))]) rfl rfl rfl rfl hS103 rfl f41 rfl rfl Try.sizeOf31 (Nat.le_of_ble_eq_true rfl) rfl rfl rfl ?_
        intro W111 hS112
        have hS113 : St ⟨w, [], φ⟩ φ35 [.blk b17 136 (List.flatMap encI x5.l), .blk b2 31 [.int .i64 (w64 (-(x5.get ((w64 (p3 + 1)).toNat * 9 + p2.toNat)))), .int .i64 (x5.get (p2.toNat * 9 + (w64 (p3 + 1)).toNat))]] W111 := hS112
        refine OKS.r rfl rfl rfl rfl (fun _ => Runs.as rfl rfl) ?_
        refine OKS.e ?_
        refine thenQ_n ?_
        refine CK.ret ?_
        cases hm108
        exact ⟨rfl, _, (resLn (rs := [.cell 8 31, .tmp 9]) (vs := [.agg #[.int .i64 (w64 (-(x5.get ((w64 (p3 + 1)).toNat * 9 + p2.toNat)))), .int .i64 (x5.get (p2.toNat * 9 + (w64 (p3 + 1)).toNat))], .int .i64 0]) ⟨⟨_, f41, (ldvarA Try.isAgg31 Try.sizeOf31 (hS113.blkAt (k := 1) rfl) (vs := [.int .i64 (w64 (-(x5.get ((w64 (p3 + 1)).toNat * 9 + p2.toNat)))), .int .i64 (x5.get (p2.toNat * 9 + (w64 (p3 + 1)).toNat))]) rfl rfl)⟩, ⟨rfl, trivial⟩⟩ rfl), φ35, _, (hS113.pick [] _ (by decide) rfl), rfl, rfl⟩
      · have hm114 := hm100; rw [if_neg c101] at hm114; replace c101 := Hid.mk c101
        refine CK.condT (decT c101.out) ?_
        refine CK.seq ?_
        refine CK.reg (ks := []) (.fl 0 (.fl 1 (.fx 2 (.fl 3 (.nil)) .stop))) rfl ?_
        refine OKS.r rfl rfl rfl rfl (fun _ => Runs.build (pv := []) (z := [.int .i64 0, .int .i64 0]) (cs := [.int .i64 0, .int .i64 0]) rfl mapnil2 Try.zeroValue31 places31 rfl rfl) ?_
        refine OKS.r rfl rfl rfl rfl (fun _ => Runs.mv rfl f43) ?_
        refine OKS.st (j := 1) (vs := [.int .i64 0, .int .i64 0]) rfl rfl rfl rfl hS37 rfl f41 rfl rfl Try.sizeOf31 (Nat.le_of_ble_eq_true rfl) rfl rfl rfl ?_
        intro W115 hS116
        have hS117 : St ⟨w, [], φ⟩ φ35 [.blk b17 136 (List.flatMap encI x5.l), .blk b2 31 [.int .i64 0, .int .i64 0]] W115 := hS116
        refine OKS.r rfl rfl rfl rfl (fun _ => Runs.as rfl rfl) ?_
        refine OKS.e ?_
        refine thenQ_n ?_
        refine CK.ret ?_
        refine thenQ_r ?_
        cases hm114
        exact ⟨rfl, _, (resLn (rs := [.cell 8 31, .tmp 9]) (vs := [.agg #[.int .i64 0, .int .i64 0], .int .i64 x6]) ⟨⟨_, f41, (ldvarA Try.isAgg31 Try.sizeOf31 (hS117.blkAt (k := 1) rfl) (vs := [.int .i64 0, .int .i64 0]) rfl rfl)⟩, ⟨rfl, trivial⟩⟩ rfl), φ35, _, (hS117.pick [] _ (by decide) rfl), rfl, rfl⟩

set_option maxHeartbeats 4000000 in
theorem w_klisterref03_Truths (p0 : Int) (p1 : List T_klisterref03_Sheet) (pA1 : Option Addr) (pc1 : Nat) (w : World) (φ : PHeap) (hS : St ⟨w, [], φ⟩ φ [] w) (ha0 : Sl φ 4 pA1 pc1 p1.length (List.flatMap encT_klisterref03_Sheet p1)) {r : (List (List Int))} (hm : m_klisterref03_Truths p0 p1 = some r) : Gv Try.prog 68 [.int .i64 p0, .slice pA1 p1.length pc1] w (RetS w [] φ (fun φ_ L_ v => ∃ (A0 : Option Addr) (c0 : Nat) (cs0 : List Value), v = .slice A0 r.length c0 ∧ L_ = [.row A0 c0 23 1 cs0] ∧ RlL φ_ rl23 r cs0)) := by
  unfold m_klisterref03_Truths at hm
  refine Gv.of Try.func68 rfl Try.ntmps68 Try.results68 rfl ?_
  refine CK.seq ?_
  refine CK.reg (ks := []) (.fl 0 (.nil)) rfl ?_
  refine OKS.r rfl rfl rfl rfl (fun _ => Runs.as rfl rfl) ?_
  refine OKS.e ?_
  refine thenQ_n ?_
  refine CK.seq ?_
  refine CK.reg (ks := []) (.fl 0 (.nil)) rfl ?_
  refine OKS.r rfl rfl rfl rfl (fun _ => Runs.as rfl rfl) ?_
  refine OKS.e ?_
  refine thenQ_n ?_
  refine CK.seq ?_
  refine CK.seq ?_
  refine CK.reg (ks := []) (.fl 0 (.nil)) rfl ?_
  refine OKS.r rfl rfl rfl rfl (fun _ => Runs.as rfl rfl) ?_
  refine OKS.e ?_
  refine thenQ_n ?_
  refine CK.block ?_
  obtain ⟨y12, hf9, hm8⟩ := bnd hm
  obtain ⟨hle10, hf11⟩ := forR'_le hf9
  replace hle10 := Hid.mk hle10
  refine CK.forN' (fun k7 x6 σ_ w_ => ∃ (φ_ : PHeap), σ_ 6 = .int .i64 (↑k7 : Int) ∧ σ_ 0 = .int .i64 p0 ∧ σ_ 1 = .slice pA1 p1.length pc1 ∧ σ_ 5 = .int .i64 x6 ∧ PHeap.Le φ φ_ ∧ St ⟨w, [], φ⟩ φ_ [] w_) hf11 ?_ ?_ ?_
  · exact ⟨φ, rfl, rfl, rfl, rfl, (PHeap.Le.refl _), hS⟩
  · rintro k7 x6 xx15 σ13 W14 hk18 ⟨φ20, fi19, f23, f24, f25, le21, hS22⟩ hx16
    have c26 : Hid ((↑k7 : Int) < p0) := Hid.mk (lp_lt0 hk18)
    replace hk18 := Hid.mk hk18
    have hi27 : Hid (w64 ((↑k7 : Int) + 1) = (↑(k7 + 1) : Int)) := Hid.mk (by have h1 := hle10.out; have h2 := c26.out; rw [w64_in] <;> omega)
    refine CK.seq ?_
    refine CK.seq ?_
    refine CK.reg (ks := []) (.fl 0 (.fl 1 (.fl 2 (.nil)))) rfl ?_
    refine OKS.r rfl rfl rfl rfl (fun _ => Runs.mv rfl fi19) ?_
    refine OKS.r rfl rfl rfl rfl (fun _ => Runs.mv rfl f23) ?_
    refine OKS.r rfl rfl rfl rfl (fun _ => Runs.lss rfl rfl rfl) ?_
    refine OKS.e ?_
    refine thenQ_n ?_
    refine CK.condT (decT c26.out) ?_
    refine CK.skip ?_
    refine thenQ_n ?_
    refine CK.seq ?_
    refine CK.block ?_
    refine CK.reg (ks := []) (.fl 0 (.fl 1 (.fl 2 (.nil)))) rfl ?_
    refine OKS.r rfl rfl rfl rfl (fun _ => Runs.mv rfl f25) ?_
    refine OKS.r rfl rfl rfl rfl (fun _ => Runs.mulw rfl rfl rfl) ?_
    refine OKS.r rfl rfl rfl rfl (fun _ => Runs.as rfl rfl) ?_
    refine OKS.e ?_
    refine blockQ_n ?_
    refine thenQ_n ?_
    refine CK.reg (ks := []) (.fl 0 (.fl 1 (.fl 2 (.nil)))) rfl ?_
    refine OKS.r rfl rfl rfl rfl (fun _ => Runs.mv rfl fi19) ?_
    refine OKS.r rfl rfl rfl rfl (fun _ => Runs.to (Runs.addw rfl rfl rfl) (congrArg (Value.int .i64) hi27.out)) ?_
    refine OKS.r rfl rfl rfl rfl (fun _ => Runs.as rfl rfl) ?_
    refine OKS.e ?_
    cases hx16
    exact thenQ_n ⟨rfl, ⟨φ20, rfl, f23, f24, rfl, le21, hS22⟩⟩
  · rintro σ29 W30 ⟨φ34, fi32, f37, f38, f39, le35, hS36⟩
    have c40 : Hid (¬ ((↑((p0 : Int) - 0).toNat : Int) < p0)) := Hid.mk (lp_end0)
    refine CK.seq ?_
    refine CK.seq ?_
    refine CK.reg (ks := []) (.fl 0 (.fl 1 (.fl 2 (.nil)))) rfl ?_
    refine OKS.r rfl rfl rfl rfl (fun _ => Runs.mv rfl fi32) ?_
    refine OKS.r rfl rfl rfl rfl (fun _ => Runs.mv rfl f37) ?_
    refine OKS.r rfl rfl rfl rfl (fun _ => Runs.lss rfl rfl rfl) ?_
    refine OKS.e ?_
    refine thenQ_n ?_
    refine CK.condF (decF c40.out) ?_
    refine CK.exit ?_
    refine thenQ_e ?_
    refine thenQ_e ?_
    refine blockQ_h ?_
    refine thenQ_n ?_
    refine CK.seq ?_
    refine CK.reg (ks := []) (.fl 0 (.nil)) rfl ?_
    refine OKS.r rfl rfl rfl rfl (fun _ => Runs.as rfl rfl) ?_
    refine OKS.e ?_
    refine thenQ_n ?_
    refine CK.seq ?_
    refine CK.seq ?_
    refine CK.reg (ks := []) (.fl 0 (.nil)) rfl ?_
    refine OKS.r rfl rfl rfl rfl (fun _ => Runs.as rfl rfl) ?_
    refine OKS.e ?_
    refine thenQ_n ?_
    refine CK.block ?_
    obtain ⟨y67, hf64, hm63⟩ := bnd hm8
    obtain ⟨hle65, hf66⟩ := forR'_le hf64
    replace hle65 := Hid.mk hle65
    refine CK.forN' (fun k62 l57 σ_ w_ => ∃ (φ_ : PHeap) (A58 : Option Addr) (c59 : Nat) (cs61 : List Value), σ_ 8 = .int .i64 (↑k62 : Int) ∧ σ_ 0 = .int .i64 p0 ∧ σ_ 1 = .slice pA1 p1.length pc1 ∧ σ_ 5 = .int .i64 y12 ∧ σ_ 7 = .slice A58 l57.length c59 ∧ PHeap.Le φ34 φ_ ∧ St ⟨w, [], φ⟩ φ_ [.row A58 c59 23 1 cs61] w_ ∧ RlL φ_ rl23 l57 cs61) hf66 ?_ ?_ ?_
    · have hS68 := hS36.nilrow 23 1
      exact ⟨φ34, none, 0, [], rfl, f37, f38, f39, rfl, (PHeap.Le.refl _), hS68, RlL.nil⟩
    · rintro k62 l57 xx72 σ70 W71 hk75 ⟨φ77, A58, c59, cs61, fi76, f80, f81, f82, f83, le78, hS79, h84⟩ hx73
      have c85 : Hid ((↑k62 : Int) < y12) := Hid.mk (lp_lt0 hk75)
      replace hk75 := Hid.mk hk75
      have hi86 : Hid (w64 ((↑k62 : Int) + 1) = (↑(k62 + 1) : Int)) := Hid.mk (by have h1 := hle65.out; have h2 := c85.out; rw [w64_in] <;> omega)
      refine CK.seq ?_
      refine CK.seq ?_
      refine CK.reg (ks := []) (.fl 0 (.fl 1 (.fl 2 (.nil)))) rfl ?_
      refine OKS.r rfl rfl rfl rfl (fun _ => Runs.mv rfl fi76) ?_
      refine OKS.r rfl rfl rfl rfl (fun _ => Runs.mv rfl f82) ?_
      refine OKS.r rfl rfl rfl rfl (fun _ => Runs.lss rfl rfl rfl) ?_
      refine OKS.e ?_
      refine thenQ_n ?_
      refine CK.condT (decT c85.out) ?_
      refine CK.skip ?_
      refine thenQ_n ?_
      refine CK.seq ?_
      refine CK.block ?_
      refine CK.seq ?_
      refine CK.reg (ks := []) (.fl 0 (.nil)) rfl ?_
      refine OKS.r rfl rfl rfl rfl (fun _ => Runs.as rfl rfl) ?_
      refine OKS.e ?_
      refine thenQ_n ?_
      refine CK.seq ?_
      refine CK.reg (ks := []) (.fl 0 (.fl 1 (.nil))) rfl ?_
      refine OKS.r rfl rfl rfl rfl (fun _ => Runs.mv rfl fi76) ?_
      refine OKS.r rfl rfl rfl rfl (fun _ => Runs.as rfl rfl) ?_
      refine OKS.e ?_
      refine thenQ_n ?_
      refine CK.seq ?_
      refine CK.seq ?_
      refine CK.reg (ks := []) (.fl 0 (.nil)) rfl ?_
      refine OKS.r rfl rfl rfl rfl (fun _ => Runs.as rfl rfl) ?_
      refine OKS.e ?_
      refine thenQ_n ?_
      refine CK.block ?_
      obtain ⟨⟨y113, y114⟩, hf110, hm109⟩ := bnd hx73
      try dsimp only at hm109
      obtain ⟨hle111, hf112⟩ := forR'_le hf110
      replace hle111 := Hid.mk hle111
      refine CK.forN' (fun k108 (l103, x107) σ_ w_ => ∃ (φ_ : PHeap) (A104 : Option Addr) (c105 : Nat), σ_ 11 = .int .i64 (↑k108 : Int) ∧ σ_ 0 = .int .i64 p0 ∧ σ_ 1 = .slice pA1 p1.length pc1 ∧ σ_ 5 = .int .i64 y12 ∧ σ_ 7 = .slice A58 l57.length c59 ∧ σ_ 8 = .int .i64 (↑k62 : Int) ∧ σ_ 9 = .slice A104 l103.length c105 ∧ σ_ 10 = .int .i64 x107 ∧ PHeap.Le φ77 φ_ ∧ St ⟨w, [], φ⟩ φ_ [.row A58 c59 23 1 cs61, .row A104 c105 3 1 (List.flatMap encI l103)] w_) hf112 ?_ ?_ ?_
      · have hS115 := hS79.nilrow 3 1
        exact ⟨φ77, none, 0, rfl, f80, f81, f82, f83, fi76, rfl, rfl, (PHeap.Le.refl _), (hS115.pick [1, 0] _ (by decide) rfl)⟩
      · rintro k108 ⟨l103, x107⟩ xx119 σ117 W118 hk122 ⟨φ124, A104, c105, fi123, f127, f128, f129, f130, f131, f132, f133, le125, hS126⟩ hx120
        try dsimp only at hx120
        have c134 : Hid ((↑k108 : Int) < p0) := Hid.mk (lp_lt0 hk122)
        replace hk122 := Hid.mk hk122
        have hi135 : Hid (w64 ((↑k108 : Int) + 1) = (↑(k108 + 1) : Int)) := Hid.mk (by have h1 := hle111.out; have h2 := c134.out; rw [w64_in] <;> omega)
        refine CK.seq ?_
        refine CK.seq ?_
        refine CK.reg (ks := []) (.fl 0 (.fl 1 (.fl 2 (.nil)))) rfl ?_
        refine OKS.r rfl rfl rfl rfl (fun _ => Runs.mv rfl fi123) ?_
        refine OKS.r rfl rfl rfl rfl (fun _ => Runs.mv rfl f127) ?_
        refine OKS.r rfl rfl rfl rfl (fun _ => Runs.lss rfl rfl rfl) ?_
        refine OKS.e ?_
        refine thenQ_n ?_
        refine CK.condT (decT c134.out) ?_
        refine CK.skip ?_
        refine thenQ_n ?_
        refine CK.seq ?_
        refine CK.block ?_
        refine CK.seq ?_
        refine CK.reg (ks := []) (.fl 0 (.fl 1 (.fl 2 (.fx 3 (.fx 4 (.fl 5 (.nil)) .stop) .stop)))) rfl ?_
        refine OKS.r rfl rfl rfl rfl (fun _ => Runs.mv rfl f132) ?_
        refine OKS.r rfl rfl rfl rfl (fun _ => Runs.mv rfl f133) ?_
        obtain ⟨x136, h137, hm138⟩ := bnd hx120
        refine OKS.r rfl rfl rfl rfl (fun _ => Runs.rem rfl rfl rfl h137) ?_
        refine OKS.buildSlice (pv := [(0, .int .i64 x136)]) (zs := [.int .i64 0]) (cs := [.int .i64 x136]) rfl rfl rfl rfl rfl (mapcons2 rfl mapnil2) Try.runUnderlying23 Try.sizeOf3 Try.zeroValue3 rfl rfl rfl rfl rfl hS126 ?_
        intro W139 b140 hS141
        have hS143 : St ⟨w, [], φ⟩ φ124 [.row (some ⟨b140, 0, none⟩) 1 3 1 (List.flatMap encI [x136]), .row A58 c59 23 1 cs61, .row A104 c105 3 1 (List.flatMap encI l103)] W139 := hS141
        obtain ⟨x144, h145, hm146⟩ := bnd hm138
        refine OKS.append (j := 2) (enc := encI) (xs := l103) (ys := [x136]) (zs := x144) rfl rfl rfl rfl rfl Try.underlying23 info3 rfl rfl rfl rfl rfl rfl hS143 rfl rfl rfl (hS143.srcR (j := 0) rfl (by decide) (flatMap_len (f := encI) (sz := 1) (fun _ => rfl) [x136])) (fun _ => rfl) (fun _ => rfl) h145 rfl ?_
        intro A147 c148 W149 hS150
        have hS151 : St ⟨w, [], φ⟩ φ124 [.row (some ⟨b140, 0, none⟩) 1 3 1 (List.flatMap encI [x136]), .row A58 c59 23 1 cs61, .row A147 c148 3 1 (List.flatMap encI x144)] W149 := hS150
        refine OKS.r rfl rfl rfl rfl (fun _ => Runs.as rfl rfl) ?_
        refine OKS.e ?_
        refine thenQ_n ?_
        refine CK.reg (ks := []) (.fl 0 (.fl 1 (.fl 2 (.nil)))) rfl ?_
        refine OKS.r rfl rfl rfl rfl (fun _ => Runs.mv rfl f133) ?_
        obtain ⟨x152, h153, hm154⟩ := bnd hm146
        refine OKS.r rfl rfl rfl rfl (fun _ => Runs.quo rfl rfl rfl h153) ?_
        refine OKS.r rfl rfl rfl rfl (fun _ => Runs.as rfl rfl) ?_
        refine OKS.e ?_
        refine blockQ_n ?_
        refine thenQ_n ?_
        refine CK.reg (ks := []) (.fl 0 (.fl 1 (.fl 2 (.nil)))) rfl ?_
        refine OKS.r rfl rfl rfl rfl (fun _ => Runs.mv rfl fi123) ?_
        refine OKS.r rfl rfl rfl rfl (fun _ => Runs.to (Runs.addw rfl rfl rfl) (congrArg (Value.int .i64) hi135.out)) ?_
        refine OKS.r rfl rfl rfl rfl (fun _ => Runs.as rfl rfl) ?_
        refine OKS.e ?_
        cases hm154
        exact thenQ_n ⟨rfl, ⟨φ124, A147, c148, rfl, f127, f128, f129, f130, f131, rfl, rfl, le125, (hS151.pick [1, 2] _ (by decide) rfl)⟩⟩
      · rintro σ159 W160 ⟨φ169, A167, c168, fi162, f172, f173, f174, f175, f176, f177, f178, le170, hS171⟩
        have c179 : Hid (¬ ((↑((p0 : Int) - 0).toNat : Int) < p0)) := Hid.mk (lp_end0)
        refine CK.seq ?_
        refine CK.seq ?_
        refine CK.reg (ks := []) (.fl 0 (.fl 1 (.fl 2 (.nil)))) rfl ?_
        refine OKS.r rfl rfl rfl rfl (fun _ => Runs.mv rfl fi162) ?_
        refine OKS.r rfl rfl rfl rfl (fun _ => Runs.mv rfl f172) ?_
        refine OKS.r rfl rfl rfl rfl (fun _ => Runs.lss rfl rfl rfl) ?_
        refine OKS.e ?_
        refine thenQ_n ?_
        refine CK.condF (decF c179.out) ?_
        refine CK.exit ?_
        refine thenQ_e ?_
        refine thenQ_e ?_
        refine blockQ_h ?_
        refine thenQ_n ?_
        refine CK.seq ?_
        refine CK.reg (ks := []) (.fl 0 (.nil)) rfl ?_
        refine OKS.r rfl rfl rfl rfl (fun _ => Runs.as rfl rfl) ?_
        refine OKS.e ?_
        refine thenQ_n ?_
        refine CK.seq ?_
        refine CK.seq ?_
        refine CK.reg (ks := []) (.fl 0 (.nil)) rfl ?_
        refine OKS.r rfl rfl rfl rfl (fun _ => Runs.as rfl rfl) ?_
        refine OKS.e ?_
        refine thenQ_n ?_
        refine CK.block ?_
        refine CK.iter (fun (b186, x187) σ_ w_ => ∃ (φ_ : PHeap), σ_ 0 = .int .i64 p0 ∧ σ_ 1 = .slice pA1 p1.length pc1 ∧ σ_ 5 = .int .i64 y12 ∧ σ_ 7 = .slice A58 l57.length c59 ∧ σ_ 8 = .int .i64 (↑k62 : Int) ∧ σ_ 9 = .slice A167 y113.length c168 ∧ σ_ 12 = .bool b186 ∧ σ_ 13 = .int .i64 x187 ∧ PHeap.Le φ169 φ_ ∧ St ⟨w, [], φ⟩ φ_ [.row A58 c59 23 1 cs61, .row A167 c168 3 1 (List.flatMap encI y113)] w_) hm109 ?_ ?_
        · exact ⟨φ169, f172, f173, f174, f175, f176, f177, rfl, rfl, (PHeap.Le.refl _), hS171⟩
        · rintro ⟨b186, x187⟩ xx190 σ188 W189 ⟨φ195, f198, f199, f200, f201, f202, f203, f204, f205, le196, hS197⟩ hx191 hb192
          try dsimp only at hx191
          refine CK.seq ?_
          refine CK.seq ?_
          refine CK.reg (ks := []) (.fl 0 (.fl 1 (.fl 2 (.fl 3 (.fl 4 (.fl 5 (.fl 6 (.nil)))))))) rfl ?_
          refine OKS.r rfl rfl rfl rfl (fun _ => Runs.mv rfl f205) ?_
          refine OKS.r rfl rfl rfl rfl (fun _ => Runs.mv rfl f199) ?_
          refine OKS.r rfl rfl rfl rfl (fun _ => Runs.len rfl rfl Try.runUnderlying47) ?_
          refine OKS.r rfl rfl rfl rfl (fun _ => Runs.lss rfl rfl rfl) ?_
          refine OKS.r rfl rfl rfl rfl (fun _ => Runs.mv rfl rfl) ?_
          by_cases c206 : x187 < (↑p1.length : Int)
          · have hm207 := hx191; rw [if_pos c206] at hm207; replace c206 := Hid.mk c206
            refine OKS.r rfl rfl rfl (wantedY rfl rfl (decT c206.out)) (fun _ => Runs.mv rfl f204) ?_
            refine OKS.r rfl rfl rfl rfl (fun _ => Runs.pickT rfl (decT c206.out) rfl) ?_
            refine OKS.e ?_
            refine thenQ_n ?_
            by_cases c208 : b186 = true
            · have hm209 := hm207; rw [if_pos c208] at hm209; replace c208 := Hid.mk c208
              refine CK.condT (congrArg Value.bool c208.out) ?_
              refine CK.skip ?_
              refine thenQ_n ?_
              refine CK.seq ?_
              refine CK.block ?_
              refine CK.seq ?_
              refine CK.reg (ks := []) (.fl 0 (.nil)) rfl ?_
              refine OKS.r rfl rfl rfl rfl (fun _ => Runs.as rfl rfl) ?_
              refine OKS.e ?_
              refine thenQ_n ?_
              refine CK.seq ?_
              refine CK.seq ?_
              refine CK.reg (ks := []) (.fl 0 (.fl 1 (.fl 2 (.fl 3 (.fl 4 (.fl 5 (.nil))))))) rfl ?_
              refine OKS.r rfl rfl rfl rfl (fun _ => Runs.mv rfl f199) ?_
              refine OKS.r rfl rfl rfl rfl (fun _ => Runs.mv rfl f205) ?_
              obtain ⟨x210, h211, hm212⟩ := bnd hm209
              have h213 := ha0.le le35
              have h214 := h213.le le78
              have h215 := h214.le le170
              have h216 := h215.le le196
              obtain ⟨b217, off218, hA219, hC220⟩ := h216.el (fun _ => rfl) (idx_get h211)
              refine OKS.r rfl rfl rfl rfl (fun _ => Runs.iaI rfl rfl hA219 rfl Try.runUnderlying47 Try.sizeOf148 (idx_lo h211) (idx_hi h211)) ?_
              refine OKS.r rfl rfl rfl rfl (fun _ => Runs.fa rfl rfl Try.runUnderlying148 rfl Try.sizeOf3) ?_
              refine OKS.m rfl rfl rfl rfl (hS197.ldC (f := 0) hC220 (v := .int .i64 x210.From) rfl rfl Try.isAgg3 rfl) rfl ?_
              refine OKS.r rfl rfl rfl rfl (fun _ => Runs.as rfl rfl) ?_
              refine OKS.e ?_
              refine thenQ_n ?_
              refine CK.block ?_
              refine CK.iter (fun (x227, x228) σ_ w_ => ∃ (φ_ : PHeap), σ_ 0 = .int .i64 p0 ∧ σ_ 1 = .slice pA1 p1.length pc1 ∧ σ_ 5 = .int .i64 y12 ∧ σ_ 7 = .slice A58 l57.length c59 ∧ σ_ 8 = .int .i64 (↑k62 : Int) ∧ σ_ 9 = .slice A167 y113.length c168 ∧ σ_ 13 = .int .i64 x187 ∧ σ_ 14 = .int .i64 x227 ∧ σ_ 15 = .int .i64 x228 ∧ PHeap.Le φ195 φ_ ∧ St ⟨w, [], φ⟩ φ_ [.row A58 c59 23 1 cs61, .row A167 c168 3 1 (List.flatMap encI y113)] w_) hm212 ?_ ?_
              · exact ⟨φ195, f198, f199, f200, f201, f202, f203, f205, rfl, rfl, (PHeap.Le.refl _), hS197⟩
              · rintro ⟨x227, x228⟩ xx231 σ229 W230 ⟨φ236, f239, f240, f241, f242, f243, f244, f245, f246, f247, le237, hS238⟩ hx232 hb233
                try dsimp only at hx232
                refine CK.seq ?_
                refine CK.seq ?_
                refine CK.reg (ks := []) (.fl 0 (.fl 1 (.fl 2 (.fl 3 (.fl 4 (.fl 5 (.fl 6 (.nil)))))))) rfl ?_
                refine OKS.r rfl rfl rfl rfl (fun _ => Runs.mv rfl f247) ?_
                refine OKS.r rfl rfl rfl rfl (fun _ => Runs.mv rfl f240) ?_
                refine OKS.r rfl rfl rfl rfl (fun _ => Runs.mv rfl f245) ?_
                have h248 := h216.le le237
                obtain ⟨b249, off250, hA251, hC252⟩ := h248.el (fun _ => rfl) (idx_get h211)
                refine OKS.r rfl rfl rfl rfl (fun _ => Runs.iaI rfl rfl hA251 rfl Try.runUnderlying47 Try.sizeOf148 (idx_lo h211) (idx_hi h211)) ?_
                refine OKS.r rfl rfl rfl rfl (fun _ => Runs.fa rfl rfl Try.runUnderlying148 rfl Try.sizeOf3) ?_
                refine OKS.m rfl rfl rfl rfl (hS238.ldC (f := 1) hC252 (v := .int .i64 x210.To) rfl rfl Try.isAgg3 rfl) rfl ?_
                refine OKS.r rfl rfl rfl rfl (fun _ => Runs.leq rfl rfl rfl) ?_
                refine OKS.e ?_
                refine thenQ_n ?_
                by_cases c253 : x228 ≤ x210.To
                · have hm254 := hx232; rw [if_pos c253] at hm254; replace c253 := Hid.mk c253
                  refine CK.condT (decT c253.out) ?_
                  refine CK.skip ?_
                  refine thenQ_n ?_
                  refine CK.seq ?_
                  refine CK.block ?_
                  refine CK.reg (ks := []) (.fl 0 (.fl 1 (.fl 2 (.fl 3 (.fl 4 (.fl 5 (.fl 6 (.nil)))))))) rfl ?_
                  refine OKS.r rfl rfl rfl rfl (fun _ => Runs.mv rfl f246) ?_
                  refine OKS.r rfl rfl rfl rfl (fun _ => Runs.mv rfl f244) ?_
                  refine OKS.r rfl rfl rfl rfl (fun _ => Runs.mv rfl f247) ?_
                  obtain ⟨_, h255, hm256⟩ := bnd hm254
                  obtain ⟨b257, hA258⟩ := hS238.rowSome (j := 1) rfl (by rw [flatMap_len (f := encI) (sz := 1) (fun _ => rfl) y113]; have hz := chk_lt h255; omega)
                  refine OKS.r rfl rfl rfl rfl (fun _ => Runs.iaI rfl rfl hA258 rfl Try.runUnderlying23 Try.sizeOf3 (chk_lo h255) (chk_hi h255)) ?_
                  have hg259 := gd_at (xs := y113) (chk_lt h255)
                  refine OKS.m rfl rfl rfl rfl (hS238.ldR (j := 1) rfl hA258 rfl rfl Try.isAgg3 (flatMap_cell (sz := 1) (fun _ => rfl) _ _ 0 _ hg259 (by omega) rfl)) rfl ?_
                  refine OKS.r rfl rfl rfl rfl (fun _ => Runs.addw rfl rfl rfl) ?_
                  refine OKS.r rfl rfl rfl rfl (fun _ => Runs.as rfl rfl) ?_
                  refine OKS.e ?_
                  refine blockQ_n ?_
                  refine thenQ_n ?_
                  refine CK.reg (ks := []) (.fl 0 (.fl 1 (.fl 2 (.nil)))) rfl ?_
                  refine OKS.r rfl rfl rfl rfl (fun _ => Runs.mv rfl f247) ?_
                  refine OKS.r rfl rfl rfl rfl (fun _ => Runs.addw rfl rfl rfl) ?_
                  refine OKS.r rfl rfl rfl rfl (fun _ => Runs.as rfl rfl) ?_
                  refine OKS.e ?_
                  obtain rfl := Option.some.inj hm256
                  exact thenQ_n ⟨rfl, _, rfl, ⟨φ236, f239, f240, f241, f242, f243, f244, f245, rfl, rfl, le237, hS238⟩⟩
                · have hm262 := hx232; rw [if_neg c253] at hm262; replace c253 := Hid.mk c253
                  refine CK.condF (decF c253.out) ?_
                  refine CK.exit ?_
                  refine thenQ_e ?_
                  obtain ⟨v263, hm264, e265⟩ := esc_spec hm262
                  obtain rfl := hb233 v263 e265
                  refine thenQ_e ?_
                  refine blockQ_h ?_
                  refine thenQ_n ?_
                  refine CK.anyOrd Try.mixed [3, 3, 3, 3, 3, 3, 1, 3, 3, 3, 3, 3, 1, 2, 3, 3] (.fl 0 (.fl 1 (.fl 2 (.fl 3 (.fl 4 (.fl 5 (.fl 6 (.fl 7 (.fl 8 (.fl 9 (.fl 10 (.fl 11 (.fl 12 (.fx 13 (.fl 14 (.fl 15 (.nil))) .stop)))))))))))))) (by kernel_rfl) ?_
                  have hS266 := hS238.drew
                  generalize hw_W267 : ({ W230 with drawn := W230.drawn + 1 } : World) = W267 at hS266 ⊢
                  refine OKS.r rfl rfl rfl rfl (fun _ => Runs.mv rfl f246) ?_
                  refine OKS.r rfl rfl rfl rfl (fun _ => Runs.mv rfl f240) ?_
                  refine OKS.r rfl rfl rfl rfl (fun _ => Runs.mv rfl f245) ?_
                  obtain ⟨b268, off269, hA270, hC271⟩ := h248.el (fun _ => rfl) (idx_get h211)
                  refine OKS.r rfl rfl rfl rfl (fun _ => Runs.iaI rfl rfl hA270 rfl Try.runUnderlying47 Try.sizeOf148 (idx_lo h211) (idx_hi h211)) ?_
                  refine OKS.r rfl rfl rfl rfl (fun _ => Runs.fa rfl rfl Try.runUnderlying148 rfl Try.sizeOf31) ?_
                  refine OKS.r rfl rfl rfl rfl (fun _ => Runs.fa rfl rfl Try.runUnderlying31 rfl Try.sizeOf3) ?_
                  refine OKS.m rfl rfl rfl rfl (hS266.ldC (f := 2) hC271 (v := .int .i64 x210.Loops.Lo) rfl rfl Try.isAgg3 rfl) rfl ?_
                  refine OKS.r rfl rfl rfl rfl (fun _ => Runs.mv rfl f240) ?_
                  refine OKS.r rfl rfl rfl rfl (fun _ => Runs.mv rfl f245) ?_
                  obtain ⟨b272, off273, hA274, hC275⟩ := h248.el (fun _ => rfl) (idx_get h211)
                  refine OKS.r rfl rfl rfl rfl (fun _ => Runs.iaI rfl rfl hA274 rfl Try.runUnderlying47 Try.sizeOf148 (idx_lo h211) (idx_hi h211)) ?_
                  refine OKS.r rfl rfl rfl rfl (fun _ => Runs.fa rfl rfl Try.runUnderlying148 rfl Try.sizeOf31) ?_
                  refine OKS.r rfl rfl rfl rfl (fun _ => Runs.fa rfl rfl Try.runUnderlying31 rfl Try.sizeOf3) ?_
                  refine OKS.m rfl rfl rfl rfl (hS266.ldC (f := 3) hC275 (v := .int .i64 x210.Loops.Hi) rfl rfl Try.isAgg3 rfl) rfl ?_
                  obtain ⟨x276, h277, hm278⟩ := bnd hm264
                  refine OKS.callH 0 rfl rfl rfl rfl (Enters.mk rfl rfl Try.call88 (mapcons rfl (mapcons rfl (mapcons rfl mapnil))) rfl) hS266 (fun hs => w_klisterref03_outside x227 x210.Loops.Lo x210.Loops.Hi W267 φ236 hs h277) (.inr rfl) ?_
                  rintro φ279 L280 v281 W282 le283 hS284 ⟨rfl, rfl⟩
                  have hS285 : St ⟨w, [], φ⟩ φ279 [.row A58 c59 23 1 cs61, .row A167 c168 3 1 (List.flatMap encI y113)] W282 := hS284
                  refine OKS.r rfl rfl rfl rfl (fun _ => Runs.notT rfl rfl) ?_
                  refine OKS.r rfl rfl rfl rfl (fun _ => Runs.as rfl rfl) ?_
                  refine OKS.e ?_
                  refine blockQ_n ?_
                  refine thenQ_n ?_
                  refine CK.reg (ks := []) (.fl 0 (.fl 1 (.fl 2 (.nil)))) rfl ?_
                  refine OKS.r rfl rfl rfl rfl (fun _ => Runs.mv rfl f245) ?_
                  refine OKS.r rfl rfl rfl rfl (fun _ => Runs.addw rfl rfl rfl) ?_
                  refine OKS.r rfl rfl rfl rfl (fun _ => Runs.as rfl rfl) ?_
                  refine OKS.e ?_
                  obtain rfl := Option.some.inj hm278
                  exact thenQ_n ⟨rfl, _, rfl, ⟨φ279, f239, f240, f241, f242, f243, f244, rfl, rfl, ((le196.trans le237).trans le283), hS285⟩⟩
            · have hm288 := hm207; rw [if_neg c208] at hm288; replace c208 := Hid.mk c208
              refine CK.condF (congrArg Value.bool (Bool.eq_false_iff.2 c208.out)) ?_
              refine CK.exit ?_
              refine thenQ_e ?_
              obtain ⟨v289, hm290, e291⟩ := esc_spec hm288
              obtain rfl := hb192 v289 e291
              refine thenQ_e ?_
              refine blockQ_h ?_
              refine thenQ_n ?_
              refine CK.seq ?_
              refine CK.reg (ks := []) (.fl 0 (.nil)) rfl ?_
              refine OKS.r rfl rfl rfl rfl (fun _ => Runs.mv rfl f204) ?_
              refine OKS.e ?_
              refine thenQ_n ?_
              refine CK.condF (congrArg Value.bool (Bool.eq_false_iff.2 c208.out)) ?_
              refine CK.skip ?_
              refine blockQ_n ?_
              refine thenQ_n ?_
              refine CK.reg (ks := []) (.fl 0 (.fl 1 (.fl 2 (.nil)))) rfl ?_
              refine OKS.r rfl rfl rfl rfl (fun _ => Runs.mv rfl f202) ?_
              refine OKS.r rfl rfl rfl rfl (fun _ => Runs.to (Runs.addw rfl rfl rfl) (congrArg (Value.int .i64) hi86.out)) ?_
              refine OKS.r rfl rfl rfl rfl (fun _ => Runs.as rfl rfl) ?_
              refine OKS.e ?_
              cases hm290
              have h296 := h84.le le170
              have h297 := h296.le le196
              exact thenQ_n ⟨rfl, ⟨φ195, A58, c59, cs61, rfl, f198, f199, f200, f201, ((le78.trans le170).trans le196), (hS197.pick [0] _ (by decide) rfl), h297⟩⟩
          · have hm298 := hx191; rw [if_neg c206] at hm298; replace c206 := Hid.mk c206
            refine OKS.p rfl rfl rfl (wantedN rfl rfl (decF c206.out) rfl) ?_
            refine OKS.r rfl rfl rfl rfl (fun _ => Runs.pickF rfl (decF c206.out) rfl) ?_
            refine OKS.e ?_
            refine thenQ_n ?_
            refine CK.condF rfl ?_
            refine CK.exit ?_
            refine thenQ_e ?_
            obtain ⟨v299, hm300, e301⟩ := esc_spec hm298
            obtain rfl := hb192 v299 e301
            refine thenQ_e ?_
            refine blockQ_h ?_
            refine thenQ_n ?_
            refine CK.seq ?_
            refine CK.reg (ks := []) (.fl 0 (.nil)) rfl ?_
            refine OKS.r rfl rfl rfl rfl (fun _ => Runs.mv rfl f204) ?_
            refine OKS.e ?_
            refine thenQ_n ?_
            by_cases c302 : b186 = true
            · have hm303 := hm300; rw [if_pos c302] at hm303; replace c302 := Hid.mk c302
              refine CK.condT (congrArg Value.bool c302.out) ?_
              refine CK.reg (ks := []) (.fl 0 (.fl 1 (.fx 2 (.fx 3 (.fl 4 (.nil)) .stop) .stop))) rfl ?_
              refine OKS.r rfl rfl rfl rfl (fun _ => Runs.mv rfl f201) ?_
              refine OKS.r rfl rfl rfl rfl (fun _ => Runs.mv rfl f203) ?_
              obtain ⟨φ307, le308, hs309, hS310⟩ := hS197.freezeR (k := 1) (n := y113.length) rfl (flatMap_len (f := encI) (sz := 1) (fun _ => rfl) y113) (by decide)
              have hS311 : St ⟨w, [], φ⟩ φ307 [.row A58 c59 23 1 cs61] W189 := hS310
              refine OKS.buildSlice (pv := [(0, .slice A167 y113.length c168)]) (zs := [.slice none 0 0]) (cs := [.slice A167 y113.length c168]) rfl rfl rfl rfl rfl (mapcons2 rfl mapnil2) Try.runUnderlying74 Try.sizeOf23 Try.zeroValue23 rfl rfl rfl rfl rfl hS311 ?_
              intro W304 b305 hS306
              have hr313 : RlL φ307 rl23 [y113] [.slice A167 y113.length c168] := (RlL.cons (R := rl23) (x := y113) (vs := [.slice A167 y113.length c168]) ⟨A167, c168, rfl, hs309⟩ RlL.nil)
              have hS314 : St ⟨w, [], φ⟩ φ307 [.row (some ⟨b305, 0, none⟩) 1 23 1 [.slice A167 y113.length c168], .row A58 c59 23 1 cs61] W304 := hS306
              obtain ⟨x315, h316, hm317⟩ := bnd hm303
              have h324 := h84.le le170
              have h325 := h324.le le196
              have h326 := h325.le le308
              refine OKS.appendR (R := rl23) (j := 1) (xs := l57) (ys := [y113]) (zs := x315) rfl rfl rfl rfl rfl Try.underlying74 info23 rfl rfl rfl rfl rfl rfl rfl hS314 rfl rfl rfl h326 hr313 (hS314.srcR (j := 0) rfl (by decide) (RlL.len hr313)) h316 rfl ?_
              intro A318 c319 cs320 W321 hS322 hr323
              have hS327 : St ⟨w, [], φ⟩ φ307 [.row (some ⟨b305, 0, none⟩) 1 23 1 [.slice A167 y113.length c168], .row A318 c319 23 1 cs320] W321 := hS322
              refine OKS.r rfl rfl rfl rfl (fun _ => Runs.as rfl rfl) ?_
              refine OKS.e ?_
              refine blockQ_n ?_
              refine thenQ_n ?_
              refine CK.reg (ks := []) (.fl 0 (.fl 1 (.fl 2 (.nil)))) rfl ?_
              refine OKS.r rfl rfl rfl rfl (fun _ => Runs.mv rfl f202) ?_
              refine OKS.r rfl rfl rfl rfl (fun _ => Runs.to (Runs.addw rfl rfl rfl) (congrArg (Value.int .i64) hi86.out)) ?_
              refine OKS.r rfl rfl rfl rfl (fun _ => Runs.as rfl rfl) ?_
              refine OKS.e ?_
              cases hm317
              exact thenQ_n ⟨rfl, ⟨φ307, A318, c319, cs320, rfl, f198, f199, f200, rfl, (((le78.trans le170).trans le196).trans le308), (hS327.pick [1] _ (by decide) rfl), hr323⟩⟩
            · have hm332 := hm300; rw [if_neg c302] at hm332; replace c302 := Hid.mk c302
              refine CK.condF (congrArg Value.bool (Bool.eq_false_iff.2 c302.out)) ?_
              refine CK.skip ?_
              refine blockQ_n ?_
              refine thenQ_n ?_
              refine CK.reg (ks := []) (.fl 0 (.fl 1 (.fl 2 (.nil)))) rfl ?_
              refine OKS.r rfl rfl rfl rfl (fun _ => Runs.mv rfl f202) ?_
              refine OKS.r rfl rfl rfl rfl (fun _ => Runs.to (Runs.addw rfl rfl rfl) (congrArg (Value.int .i64) hi86.out)) ?_
              refine OKS.r rfl rfl rfl rfl (fun _ => Runs.as rfl rfl) ?_
              refine OKS.e ?_
              cases hm332
              have h337 := h84.le le170
              have h338 := h337.le le196
              exact thenQ_n ⟨rfl, ⟨φ195, A58, c59, cs61, rfl, f198, f199, f200, f201, ((le78.trans le170).trans le196), (hS197.pick [0] _ (by decide) rfl), h338⟩⟩
    · rintro σ339 W340 ⟨φ350, A347, c348, c349, fi342, f353, f354, f355, f356, le351, hS352, h357⟩
      have c358 : Hid (¬ ((↑((y12 : Int) - 0).toNat : Int) < y12)) := Hid.mk (lp_end0)
      refine CK.seq ?_
      refine CK.seq ?_
      refine CK.reg (ks := []) (.fl 0 (.fl 1 (.fl 2 (.nil)))) rfl ?_
      refine OKS.r rfl rfl rfl rfl (fun _ => Runs.mv rfl fi342) ?_
      refine OKS.r rfl rfl rfl rfl (fun _ => Runs.mv rfl f355) ?_
      refine OKS.r rfl rfl rfl rfl (fun _ => Runs.lss rfl rfl rfl) ?_
      refine OKS.e ?_
      refine thenQ_n ?_
      refine CK.condF (decF c358.out) ?_
      refine CK.exit ?_
      refine thenQ_e ?_
      refine thenQ_e ?_
      refine blockQ_h ?_
      refine thenQ_n ?_
      refine CK.seq ?_
      refine CK.reg (ks := []) (.fl 0 (.fl 1 (.nil))) rfl ?_
      refine OKS.r rfl rfl rfl rfl (fun _ => Runs.mv rfl f356) ?_
      refine OKS.r rfl rfl rfl rfl (fun _ => Runs.as rfl rfl) ?_
      refine OKS.e ?_
      refine thenQ_n ?_
      refine CK.ret ?_
      cases hm63
      exact ⟨rfl, _, (res1 rfl), φ350, _, hS352, A347, c348, c349, rfl, rfl, h357⟩
end Go.Proofs.Ytnllmignponhdaa
