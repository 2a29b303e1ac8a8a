/- Walks, printed by a program: each function does what its model says. -/
import Derived.Test.YtfdnbaahdjlapaaGreatEnc
namespace Go.Proofs.YtfdnbaahdjlapaaGreat
open Go.KL
theorem w_klisterlaw08_awake (w : World) (φ : PHeap) (hS : St ⟨w, [], φ⟩ φ [] w) {r : Bool} (hm : m_klisterlaw08_awake = some r) : Gv Tryz.prog 8 [] w (RetS w [] φ (fun φ_ L_ v => v = .bool r ∧ L_ = [])) := by
  cases hm
  refine (xr8 w).mono ?_
  rintro v w' ⟨rfl, k⟩
  exact ⟨φ, [], hS.grow k, rfl, rfl⟩

set_option maxHeartbeats 4000000 in
theorem w_klisterkit_Clone_int (p0 : List Int) (pA0 : Option Addr) (pc0 : Nat) (w : World) (φ : PHeap) (hS : St ⟨w, [], φ⟩ φ [] w) (ha0 : Sl φ 1 pA0 pc0 p0.length (List.flatMap encI p0)) {r : (List Int)} (hm : m_klisterkit_Clone_int p0 = some r) : Gv Tryz.prog 53 [.slice pA0 p0.length pc0] w (RetS w [] φ (fun φ_ L_ v => ∃ (A0 : Option Addr) (c0 : Nat), v = .slice A0 r.length c0 ∧ L_ = [.row A0 c0 3 1 (List.flatMap encI r)])) := by
 unfold m_klisterkit_Clone_int at hm
 refine Gv.of Tryz.func53 rfl Tryz.ntmps53 Tryz.results53 rfl ?_
 refine CK.seq ?_
 refine CK.reg (ks := []) (.fl 0 (.nil)) rfl ?_
 refine OKS.ra rfl rfl rfl rfl rfl rfl ?_
 refine OKS.e ?_
 refine thenQ_n ?_
 refine CK.seq ?_
 refine CK.reg (ks := []) (.fl 0 (.fx 1 (.fl 2 (.nil)) .stop)) rfl ?_
 refine OKS.rm rfl rfl rfl rfl rfl rfl ?_
 have hS1 := hS.nilrow 3 1
 have hS3 : St ⟨w, [], φ⟩ φ [.row none 0 3 1 (List.flatMap encI ([] : List Int))] w := hS1
 have q := bnd hm
 obtain ⟨x4, h5, hm6⟩ := q
 refine OKS.append (j := 0) (enc := encI) (xs := ([] : List Int)) (ys := p0) (zs := x4) rfl rfl rfl rfl rfl Tryz.underlying22 info3 rfl rfl rfl rfl rfl rfl hS3 rfl rfl rfl (hS3.srcS ha0) (fun _ => rfl) (fun _ => rfl) h5 rfl ?_
 intro A7 c8 W9 hS10
 have hS11 : St ⟨w, [], φ⟩ φ [.row A7 c8 3 1 (List.flatMap encI x4)] W9 := hS10
 refine OKS.ra rfl rfl rfl rfl rfl rfl ?_
 refine OKS.e ?_
 refine thenQ_n ?_
 refine CK.ret ?_
 cases hm6
 exact ⟨rfl, _, (res1 rfl), φ, _, hS11, A7, c8, rfl, rfl⟩

set_option maxHeartbeats 4000000 in
theorem w_klisterlaw08_CloneRules (p0 : T_relay_Rules) (pA0_0 : Option Addr) (pc0_0 : Nat) (w : World) (φ : PHeap) (hS : St ⟨w, [], φ⟩ φ [] w) (ha0 : Sl φ 1 pA0_0 pc0_0 p0.Classes.length (List.flatMap encI p0.Classes)) {r : T_relay_Rules} (hm : m_klisterlaw08_CloneRules p0 = some r) : Gv Tryz.prog 9 [.agg #[.slice pA0_0 p0.Classes.length pc0_0, .int .i64 p0.Each, .int .i64 p0.Laps, .int .i64 p0.Spare, .int .i64 p0.Loop, .int .i64 p0.Unused]] w (RetS w [] φ (fun φ_ L_ v => ∃ (A00 : Option Addr) (c00 : Nat), v = .agg #[.slice A00 r.Classes.length c00, .int .i64 r.Each, .int .i64 r.Laps, .int .i64 r.Spare, .int .i64 r.Loop, .int .i64 r.Unused] ∧ L_ = [.row A00 c00 3 1 (List.flatMap encI r.Classes)])) := by
 unfold m_klisterlaw08_CloneRules at hm
 refine Gv.of Tryz.func9 rfl Tryz.ntmps9 Tryz.results9 rfl ?_
 refine CK.seq ?_
 refine CK.reg (ks := []) (.fx 0 (.fx 1 (.nil) .stop) .stop) rfl ?_
 refine OKS.box (cs := [.slice pA0_0 p0.Classes.length pc0_0, .int .i64 p0.Each, .int .i64 p0.Laps, .int .i64 p0.Spare, .int .i64 p0.Loop, .int .i64 p0.Unused]) rfl rfl rfl rfl rfl rfl (by rfl) hS ?_
 intro W1 b2 hS3
 refine OKS.alloc (cs := [.slice none 0 0, .int .i64 0, .int .i64 0, .int .i64 0, .int .i64 0, .int .i64 0]) rfl rfl rfl rfl rfl Tryz.zeroValue24 rfl hS3 ?_
 intro W5 b6 hS7
 refine OKS.e ?_
 refine thenQ_n ?_
 refine CK.seq ?_
 refine CK.reg (ks := []) (.fl 0 (.fl 1 (.fx 2 (.fl 3 (.fx 4 (.nil) .stop)) .stop))) rfl ?_
 refine OKS.r rfl rfl rfl rfl (fun _ => Runs.fa rfl rfl Tryz.runUnderlying24 rfl Tryz.sizeOf22) ?_
 refine OKS.m rfl rfl rfl rfl (hS7.ldB (j := 1) rfl rfl rfl Tryz.isAgg22 (v := .slice pA0_0 p0.Classes.length pc0_0) rfl) rfl ?_
 have q := bnd hm
 obtain ⟨x9, h10, hm11⟩ := q
 refine OKS.callH 0 rfl rfl rfl rfl (Enters.mk rfl rfl Tryz.call53 (mapcons rfl mapnil) rfl) hS7 (fun hs => w_klisterkit_Clone_int p0.Classes pA0_0 pc0_0 W5 φ hs ha0 h10) (.inr rfl) ?_
 rintro φ12 L13 v14 W15 le16 hS17 ⟨A18, c19, rfl, rfl⟩
 have hS21 : St ⟨w, [], φ⟩ φ12 [.row A18 c19 3 1 (List.flatMap encI x9), .blk b6 24 [.slice none 0 0, .int .i64 0, .int .i64 0, .int .i64 0, .int .i64 0, .int .i64 0], .blk b2 24 [.slice pA0_0 p0.Classes.length pc0_0, .int .i64 p0.Each, .int .i64 p0.Laps, .int .i64 p0.Spare, .int .i64 p0.Loop, .int .i64 p0.Unused]] W15 := hS17
 refine OKS.r rfl rfl rfl rfl (fun _ => Runs.fa rfl rfl Tryz.runUnderlying24 rfl Tryz.sizeOf22) ?_
 refine OKS.st (j := 2) (vs := [.slice A18 x9.length c19]) rfl rfl rfl rfl hS21 rfl rfl rfl rfl Tryz.sizeOf22 (Nat.le_of_ble_eq_true rfl) rfl rfl rfl ?_
 intro W22 hS23
 have hS24 : St ⟨w, [], φ⟩ φ12 [.row A18 c19 3 1 (List.flatMap encI x9), .blk b6 24 [.slice none 0 0, .int .i64 0, .int .i64 0, .int .i64 0, .int .i64 0, .int .i64 0], .blk b2 24 [.slice A18 x9.length c19, .int .i64 p0.Each, .int .i64 p0.Laps, .int .i64 p0.Spare, .int .i64 p0.Loop, .int .i64 p0.Unused]] W22 := hS23
 refine OKS.e ?_
 refine thenQ_n ?_
 refine CK.seq ?_
 refine CK.reg (ks := []) (.fl 0 (.fx 1 (.nil) .stop)) rfl ?_
 refine OKS.m rfl rfl rfl rfl (hS24.ldBA (j := 2) rfl rfl rfl Tryz.isAgg24 Tryz.sizeOf24 (vs := [.slice A18 x9.length c19, .int .i64 p0.Each, .int .i64 p0.Laps, .int .i64 p0.Spare, .int .i64 p0.Loop, .int .i64 p0.Unused]) rfl rfl) rfl ?_
 refine OKS.st (j := 1) (vs := [.slice A18 x9.length c19, .int .i64 p0.Each, .int .i64 p0.Laps, .int .i64 p0.Spare, .int .i64 p0.Loop, .int .i64 p0.Unused]) rfl rfl rfl rfl hS24 rfl rfl rfl rfl Tryz.sizeOf24 (Nat.le_of_ble_eq_true rfl) rfl rfl rfl ?_
 intro W25 hS26
 have hS27 : St ⟨w, [], φ⟩ φ12 [.row A18 c19 3 1 (List.flatMap encI x9), .blk b6 24 [.slice A18 x9.length c19, .int .i64 p0.Each, .int .i64 p0.Laps, .int .i64 p0.Spare, .int .i64 p0.Loop, .int .i64 p0.Unused], .blk b2 24 [.slice A18 x9.length c19, .int .i64 p0.Each, .int .i64 p0.Laps, .int .i64 p0.Spare, .int .i64 p0.Loop, .int .i64 p0.Unused]] W25 := hS26
 refine OKS.e ?_
 refine thenQ_n ?_
 refine CK.ret ?_
 cases hm11
 exact ⟨rfl, _, (resL1 (v := .agg #[.slice A18 x9.length c19, .int .i64 p0.Each, .int .i64 p0.Laps, .int .i64 p0.Spare, .int .i64 p0.Loop, .int .i64 p0.Unused]) ⟨⟨_, rfl, (ldvarA Tryz.isAgg24 Tryz.sizeOf24 (hS27.blkAt (k := 1) rfl) (vs := [.slice A18 x9.length c19, .int .i64 p0.Each, .int .i64 p0.Laps, .int .i64 p0.Spare, .int .i64 p0.Loop, .int .i64 p0.Unused]) rfl rfl)⟩, trivial⟩), φ12, _, (hS27.pick [0] _ (by decide) rfl), A18, c19, rfl, rfl⟩

set_option maxHeartbeats 4000000 in
theorem w_klisterkit_Clone_bool (p0 : List Bool) (pA0 : Option Addr) (pc0 : Nat) (w : World) (φ : PHeap) (hS : St ⟨w, [], φ⟩ φ [] w) (ha0 : Sl φ 1 pA0 pc0 p0.length (List.flatMap encT p0)) {r : (List Bool)} (hm : m_klisterkit_Clone_bool p0 = some r) : Gv Tryz.prog 10 [.slice pA0 p0.length pc0] w (RetS w [] φ (fun φ_ L_ v => ∃ (A0 : Option Addr) (c0 : Nat), v = .slice A0 r.length c0 ∧ L_ = [.row A0 c0 4 1 (List.flatMap encT r)])) := by
 unfold m_klisterkit_Clone_bool at hm
 refine Gv.of Tryz.func10 rfl Tryz.ntmps10 Tryz.results10 rfl ?_
 refine CK.seq ?_
 refine CK.reg (ks := []) (.fl 0 (.nil)) rfl ?_
 refine OKS.ra rfl rfl rfl rfl rfl rfl ?_
 refine OKS.e ?_
 refine thenQ_n ?_
 refine CK.seq ?_
 refine CK.reg (ks := []) (.fl 0 (.fx 1 (.fl 2 (.nil)) .stop)) rfl ?_
 refine OKS.rm rfl rfl rfl rfl rfl rfl ?_
 have hS1 := hS.nilrow 4 1
 have hS3 : St ⟨w, [], φ⟩ φ [.row none 0 4 1 (List.flatMap encT ([] : List Bool))] w := hS1
 have q := bnd hm
 obtain ⟨x4, h5, hm6⟩ := q
 refine OKS.append (j := 0) (enc := encT) (xs := ([] : List Bool)) (ys := p0) (zs := x4) rfl rfl rfl rfl rfl Tryz.underlying25 info4 rfl rfl rfl rfl rfl rfl hS3 rfl rfl rfl (hS3.srcS ha0) (fun _ => rfl) (fun _ => rfl) h5 rfl ?_
 intro A7 c8 W9 hS10
 have hS11 : St ⟨w, [], φ⟩ φ [.row A7 c8 4 1 (List.flatMap encT x4)] W9 := hS10
 refine OKS.ra rfl rfl rfl rfl rfl rfl ?_
 refine OKS.e ?_
 refine thenQ_n ?_
 refine CK.ret ?_
 cases hm6
 exact ⟨rfl, _, (res1 rfl), φ, _, hS11, A7, c8, rfl, rfl⟩

set_option maxHeartbeats 4000000 in
theorem w_relay_in (p0 : Int) (p1 : Int) (p2 : Int) (w : World) (φ : PHeap) (hS : St ⟨w, [], φ⟩ φ [] w)  {r : Bool} (hm : m_relay_in p0 p1 p2 = some r) : Gv Tryz.prog 54 [.int .i64 p0, .int .i64 p1, .int .i64 p2] w (RetS w [] φ (fun φ_ L_ v => v = .bool r ∧ L_ = [])) := by
 unfold m_relay_in at hm
 refine Gv.of Tryz.func54 rfl Tryz.ntmps54 Tryz.results54 rfl ?_
 refine CK.seq ?_
 refine CK.reg (ks := []) (.fl 0 (.nil)) rfl ?_
 refine OKS.ra rfl rfl rfl rfl rfl rfl ?_
 refine OKS.e ?_
 refine thenQ_n ?_
 refine CK.seq ?_
 refine CK.reg (ks := []) (.fl 0 (.fl 1 (.fl 2 (.fl 3 (.fl 4 (.fl 5 (.fl 6 (.fl 7 (.fl 8 (.nil)))))))))) rfl ?_
 refine OKS.rm rfl rfl rfl rfl rfl rfl ?_
 refine OKS.rm rfl rfl rfl rfl rfl rfl ?_
 refine OKS.r rfl rfl rfl rfl (fun _ => Runs.geq rfl rfl rfl) ?_
 refine OKS.rm rfl rfl rfl rfl rfl rfl ?_
 by_cases c1 : p1 ≤ p0
 ·have hm2 := hm; rw [if_pos c1] at hm2; replace c1 := Hid.mk c1
  refine OKS.rm rfl rfl rfl (wantedY rfl rfl (decT c1.out)) rfl rfl ?_
  refine OKS.rm rfl rfl rfl (wantedY rfl rfl (decT c1.out)) rfl rfl ?_
  refine OKS.r rfl rfl rfl (wantedY rfl rfl (decT c1.out)) (fun _ => Runs.leq rfl rfl rfl) ?_
  refine OKS.r rfl rfl rfl rfl (fun _ => Runs.pickT rfl (decT c1.out) rfl) ?_
  refine OKS.ra rfl rfl rfl rfl rfl rfl ?_
  refine OKS.e ?_
  refine thenQ_n ?_
  refine CK.ret ?_
  cases hm2
  exact ⟨rfl, _, (res1 rfl), φ, _, hS, rfl, rfl⟩
 ·have hm3 := hm; rw [if_neg c1] at hm3; replace c1 := Hid.mk c1
  refine OKS.p rfl rfl rfl (wantedN rfl rfl (decF c1.out) rfl) ?_
  refine OKS.p rfl rfl rfl (wantedN rfl rfl (decF c1.out) rfl) ?_
  refine OKS.p rfl rfl rfl (wantedN rfl rfl (decF c1.out) rfl) ?_
  refine OKS.r rfl rfl rfl rfl (fun _ => Runs.pickF rfl (decF c1.out) rfl) ?_
  refine OKS.ra rfl rfl rfl rfl rfl rfl ?_
  refine OKS.e ?_
  refine thenQ_n ?_
  refine CK.ret ?_
  cases hm3
  exact ⟨rfl, _, (res1 rfl), φ, _, hS, rfl, rfl⟩

set_option maxHeartbeats 4000000 in
theorem w_relay_each_int_1 (p0 : Int) (p1 : (Int → Option Bool)) (pb1 : Nat) (pv1 : Value) (w : World) (φ : PHeap) (hS : St ⟨w, [], φ⟩ φ [] w) (ha0 : Cl φ pb1 0 [pv1]) (ha1 : FnOK Tryz.prog φ pv1 ar179 rr179 p1) {r : Bool} (hm : m_relay_each_int_1 p0 p1 = some r) : Gv Tryz.prog 151 [.int .i64 p0, .pointer (some ⟨pb1, 0, none⟩)] w (RetS w [] φ (fun φ_ L_ v => v = .bool r ∧ L_ = [])) := by
 unfold m_relay_each_int_1 at hm
 refine Gv.of Tryz.func151 rfl Tryz.ntmps151 Tryz.results151 rfl ?_
 refine CK.seq ?_
 refine CK.reg (ks := []) (.fl 0 (.nil)) rfl ?_
 refine OKS.ra rfl rfl rfl rfl rfl rfl ?_
 refine OKS.e ?_
 refine thenQ_n ?_
 refine CK.seq ?_
 refine CK.reg (ks := []) (.fl 0 (.fl 1 (.fx 2 (.fl 3 (.fl 4 (.nil))) .stop))) rfl ?_
 refine OKS.m rfl rfl rfl rfl (hS.ldC (f := 0) ha0 (v := pv1) rfl rfl Tryz.isAgg179 rfl) rfl ?_
 refine OKS.rm rfl rfl rfl rfl rfl rfl ?_
 have q := bnd hm
 obtain ⟨x1, h2, hm3⟩ := q
 refine OKS.callV (a := p0) rfl rfl rfl rfl rfl rfl (mapcons rfl mapnil) hS ha1 rfl h2 ?_
 rintro φ4 L5 v6 W7 le8 hS9 ⟨rfl, rfl⟩
 have hS10 : St ⟨w, [], φ⟩ φ4 [] W7 := hS9
 refine OKS.r rfl rfl rfl rfl (fun _ => Runs.notT rfl rfl) ?_
 refine OKS.ra rfl rfl rfl rfl rfl rfl ?_
 refine OKS.e ?_
 refine thenQ_n ?_
 refine CK.ret ?_
 cases hm3
 exact ⟨rfl, _, (res1 rfl), φ4, _, hS10, rfl, rfl⟩

set_option maxHeartbeats 4000000 in
theorem w_slices_IndexFunc_int_int (p0 : List Int) (pA0 : Option Addr) (pc0 : Nat) (p1 : (Int → Option Bool)) (pv1 : Value) (w : World) (φ : PHeap) (hS : St ⟨w, [], φ⟩ φ [] w) (ha0 : Sl φ 1 pA0 pc0 p0.length (List.flatMap encI p0)) (ha1 : FnOK Tryz.prog φ pv1 ar179 rr179 p1) {r : Int} (hm : m_slices_IndexFunc_int_int p0 p1 = some r) : Gv Tryz.prog 124 [.slice pA0 p0.length pc0, pv1] w (RetS w [] φ (fun φ_ L_ v => v = .int .i64 r ∧ L_ = [])) := by
 unfold m_slices_IndexFunc_int_int at hm
 refine Gv.of Tryz.func124 rfl Tryz.ntmps124 Tryz.results124 rfl ?_
 refine CK.seq ?_
 refine CK.reg (ks := []) (.fl 0 (.nil)) rfl ?_
 refine OKS.ra rfl rfl rfl rfl rfl rfl ?_
 refine OKS.e ?_
 refine thenQ_n ?_
 refine CK.seq ?_
 refine CK.seq ?_
 refine CK.reg (ks := []) (.fl 0 (.fl 1 (.fl 2 (.nil)))) rfl ?_
 refine OKS.rm rfl rfl rfl rfl rfl rfl ?_
 refine OKS.r rfl rfl rfl rfl (fun _ => Runs.len rfl rfl Tryz.runUnderlying22) ?_
 refine OKS.rm rfl rfl rfl rfl rfl rfl ?_
 refine OKS.e ?_
 refine thenQ_n ?_
 refine CK.block ?_
 have q := jn_some hm
 obtain ⟨r3, hX4⟩ := q
 have q := forR_le hX4
 obtain ⟨hle5, hf6⟩ := q
 replace hle5 := Hid.mk hle5
 refine CK.forN (fun k2 _ σ_ w_ => ∃ (φ_ : PHeap), σ_ 8 = .int .i64 (↑k2 : Int) ∧ σ_ 0 = .slice pA0 p0.length pc0 ∧ σ_ 1 = pv1 ∧ σ_ 7 = .int .i64 (↑p0.length : Int) ∧ PHeap.Le φ φ_ ∧ St ⟨w, [], φ⟩ φ_ [] w_) hf6 ?_ ?_ ?_
 ·exact ⟨φ, rfl, rfl, rfl, rfl, (PHeap.Le.refl _), hS⟩
 ·rintro k2 ⟨⟩ xx9 σ7 W8 hk12 ⟨φ14, fi13, f17, f18, f19, le15, hS16⟩ hx10 hb11
  try dsimp only at hx10
  have c20 : Hid ((↑k2 : Int) < (↑p0.length : Int)) := Hid.mk (lp_lt0 hk12)
  replace hk12 := Hid.mk hk12
  have hi21 : Hid (w64 ((↑k2 : Int) + 1) = (↑(k2 + 1) : Int)) := Hid.mk (by have h1 := hle5.out; have h2 := c20.out; rw [w64_in] <;> omega)
  refine CK.seq ?_
  refine CK.reg (ks := []) (.fl 0 (.nil)) rfl ?_
  refine OKS.r rfl rfl rfl rfl (fun _ => Runs.lss rfl fi13 f19) ?_
  refine OKS.e ?_
  refine thenQ_n ?_
  refine CK.seq ?_
  refine CK.condT (decT c20.out) ?_
  refine CK.skip ?_
  refine thenQ_n ?_
  refine CK.seq ?_
  refine CK.block ?_
  refine CK.seq ?_
  refine CK.reg (ks := []) (.fl 0 (.fl 1 (.nil))) rfl ?_
  refine OKS.rm rfl rfl rfl rfl rfl fi13 ?_
  refine OKS.ra rfl rfl rfl rfl rfl rfl ?_
  refine OKS.e ?_
  refine thenQ_n ?_
  refine CK.seq ?_
  refine CK.reg (ks := []) (.fl 0 (.fl 1 (.fl 2 (.fl 3 (.fl 4 (.fx 5 (.nil) .stop)))))) rfl ?_
  refine OKS.rm rfl rfl rfl rfl rfl f18 ?_
  refine OKS.rm rfl rfl rfl rfl rfl f17 ?_
  refine OKS.rm rfl rfl rfl rfl rfl rfl ?_
  have q := bnd hx10
  obtain ⟨x22, h23, hm24⟩ := q
  have h25 := ha0.le le15
  have q := h25.el (fun _ => rfl) (idx_get h23)
  obtain ⟨b26, off27, hA28, hC29⟩ := q
  refine OKS.r rfl rfl rfl rfl (fun _ => Runs.iaN rfl rfl hA28 rfl Tryz.runUnderlying22 Tryz.sizeOf3 (idx_lt h23)) ?_
  refine OKS.m rfl rfl rfl rfl (hS16.ldC (f := 0) hC29 (v := .int .i64 x22) rfl rfl Tryz.isAgg3 rfl) rfl ?_
  have q := bnd hm24
  obtain ⟨x30, h31, hm32⟩ := q
  have h39 := ha1.le le15
  refine OKS.callV (a := x22) rfl rfl rfl rfl rfl rfl (mapcons rfl mapnil) hS16 h39 rfl h31 ?_
  rintro φ33 L34 v35 W36 le37 hS38 ⟨rfl, rfl⟩
  have hS40 : St ⟨w, [], φ⟩ φ33 [] W36 := hS38
  refine OKS.e ?_
  refine thenQ_n ?_
  by_cases c41 : x30 = true
  ·have hm42 := hm32; rw [if_pos c41] at hm42; replace c41 := Hid.mk c41
   refine CK.condT (congrArg Value.bool c41.out) ?_
   refine CK.seq ?_
   refine CK.reg (ks := []) (.fl 0 (.fl 1 (.nil))) rfl ?_
   refine OKS.rm rfl rfl rfl rfl rfl rfl ?_
   refine OKS.ra rfl rfl rfl rfl rfl rfl ?_
   refine OKS.e ?_
   refine thenQ_n ?_
   refine CK.ret ?_
   refine blockQ_r ?_
   refine thenQ_r ?_
   have q := esc_spec hm42
   obtain ⟨v43, hm44, e45⟩ := q
   obtain rfl := jn_inr hm hX4 (hb11 v43 e45)
   refine thenQ_r ?_
   refine blockQ_r ?_
   refine thenQ_r ?_
   cases hm44
   exact ⟨rfl, _, (res1 rfl), φ33, _, hS40, rfl, rfl⟩
  ·have hm46 := hm32; rw [if_neg c41] at hm46; replace c41 := Hid.mk c41
   refine CK.condF (congrArg Value.bool (Bool.eq_false_iff.2 c41.out)) ?_
   refine CK.skip ?_
   refine blockQ_n ?_
   refine thenQ_n ?_
   refine CK.reg (ks := []) (.fl 0 (.fl 1 (.nil))) rfl ?_
   refine OKS.r rfl rfl rfl rfl (fun _ => Runs.to (Runs.addw rfl fi13 rfl) (congrArg (Value.int .i64) hi21.out)) ?_
   refine OKS.rm rfl rfl rfl rfl rfl rfl ?_
   refine OKS.e ?_
   obtain rfl := Option.some.inj hm46
   exact thenQ_n ⟨rfl, _, rfl, ⟨φ33, rfl, f17, f18, f19, (le15.trans le37), hS40⟩⟩
 ·rintro ⟨⟩ σ47 W48 ⟨φ51, fi50, f54, f55, f56, le52, hS53⟩ hb49
  have hm57 := jn_inl hm hX4 hb49
  try dsimp only at hm57
  have c58 : Hid (¬ ((↑(((↑p0.length : Int) : Int) - 0).toNat : Int) < (↑p0.length : Int))) := Hid.mk (lp_end0)
  refine CK.seq ?_
  refine CK.reg (ks := []) (.fl 0 (.nil)) rfl ?_
  refine OKS.r rfl rfl rfl rfl (fun _ => Runs.lss rfl fi50 f56) ?_
  refine OKS.e ?_
  refine thenQ_n ?_
  refine CK.seq ?_
  refine CK.condF (decF c58.out) ?_
  refine CK.exit ?_
  refine thenQ_e ?_
  refine thenQ_e ?_
  refine blockQ_h ?_
  refine thenQ_n ?_
  refine CK.seq ?_
  refine CK.reg (ks := []) (.fl 0 (.nil)) rfl ?_
  refine OKS.ra rfl rfl rfl rfl rfl rfl ?_
  refine OKS.e ?_
  refine thenQ_n ?_
  refine CK.ret ?_
  cases hm57
  exact ⟨rfl, _, (res1 rfl), φ51, _, hS53, rfl, rfl⟩

set_option maxHeartbeats 4000000 in
theorem w_slices_ContainsFunc_int_int (p0 : List Int) (pA0 : Option Addr) (pc0 : Nat) (p1 : (Int → Option Bool)) (pv1 : Value) (w : World) (φ : PHeap) (hS : St ⟨w, [], φ⟩ φ [] w) (ha0 : Sl φ 1 pA0 pc0 p0.length (List.flatMap encI p0)) (ha1 : FnOK Tryz.prog φ pv1 ar179 rr179 p1) {r : Bool} (hm : m_slices_ContainsFunc_int_int p0 p1 = some r) : Gv Tryz.prog 150 [.slice pA0 p0.length pc0, pv1] w (RetS w [] φ (fun φ_ L_ v => v = .bool r ∧ L_ = [])) := by
 unfold m_slices_ContainsFunc_int_int at hm
 refine Gv.of Tryz.func150 rfl Tryz.ntmps150 Tryz.results150 rfl ?_
 refine CK.seq ?_
 refine CK.reg (ks := []) (.fl 0 (.nil)) rfl ?_
 refine OKS.ra rfl rfl rfl rfl rfl rfl ?_
 refine OKS.e ?_
 refine thenQ_n ?_
 refine CK.seq ?_
 refine CK.reg (ks := []) (.fl 0 (.fl 1 (.fx 2 (.fl 3 (.fl 4 (.nil))) .stop))) rfl ?_
 refine OKS.rm rfl rfl rfl rfl rfl rfl ?_
 refine OKS.rm rfl rfl rfl rfl rfl rfl ?_
 have q := bnd hm
 obtain ⟨x1, h2, hm3⟩ := q
 refine OKS.callH 0 rfl rfl rfl rfl (Enters.mk rfl rfl Tryz.call124 (mapcons rfl (mapcons rfl mapnil)) rfl) hS (fun hs => w_slices_IndexFunc_int_int p0 pA0 pc0 p1 pv1 w φ hs ha0 ha1 h2) (.inr rfl) ?_
 rintro φ4 L5 v6 W7 le8 hS9 ⟨rfl, rfl⟩
 have hS10 : St ⟨w, [], φ⟩ φ4 [] W7 := hS9
 refine OKS.r rfl rfl rfl rfl (fun _ => Runs.geq rfl rfl rfl) ?_
 refine OKS.ra rfl rfl rfl rfl rfl rfl ?_
 refine OKS.e ?_
 refine thenQ_n ?_
 refine CK.ret ?_
 cases hm3
 exact ⟨rfl, _, (res1 rfl), φ4, _, hS10, rfl, rfl⟩

set_option maxHeartbeats 4000000 in
theorem w_relay_each_int (p0 : List Int) (pA0 : Option Addr) (pc0 : Nat) (p1 : (Int → Option Bool)) (pv1 : Value) (w : World) (φ : PHeap) (hS : St ⟨w, [], φ⟩ φ [] w) (ha0 : Sl φ 1 pA0 pc0 p0.length (List.flatMap encI p0)) (ha1 : FnOK Tryz.prog φ pv1 ar179 rr179 p1) {r : Bool} (hm : m_relay_each_int p0 p1 = some r) : Gv Tryz.prog 100 [.slice pA0 p0.length pc0, pv1] w (RetS w [] φ (fun φ_ L_ v => v = .bool r ∧ L_ = [])) := by
 unfold m_relay_each_int at hm
 refine Gv.of Tryz.func100 rfl Tryz.ntmps100 Tryz.results100 rfl ?_
 refine CK.seq ?_
 refine CK.reg (ks := []) (.fx 0 (.fl 1 (.nil)) .stop) rfl ?_
 refine OKS.box (cs := [pv1]) rfl rfl rfl rfl rfl rfl (FnOK.cells ha1) hS ?_
 intro W1 b2 hS3
 have q := hS3.freeze (k := 0) rfl
 obtain ⟨φ5, le6, hC7, hS8⟩ := q
 replace hC7 := Cl.of hC7
 have hS9 : St ⟨w, [], φ⟩ φ5 [] W1 := hS8
 replace hC7 : Cl φ5 b2 0 [pv1] := hC7
 refine OKS.ra rfl rfl rfl rfl rfl rfl ?_
 refine OKS.e ?_
 refine thenQ_n ?_
 refine CK.seq ?_
 refine CK.reg (ks := []) (.fl 0 (.fl 1 (.fx 2 (.fl 3 (.fl 4 (.nil))) .stop))) rfl ?_
 refine OKS.rm rfl rfl rfl rfl rfl rfl ?_
 refine OKS.r rfl rfl rfl rfl (fun _ => Runs.mkf rfl mapnil (mapcons rfl mapnil)) ?_
 have h10 := ha0.le le6
 have h11 := ha1.le le6
 have hF12 : FnOK Tryz.prog φ5 (.func (.func 151) #[] #[.pointer (some ⟨b2, 0, none⟩)]) ar179 rr179 (fun x => m_relay_each_int_1 x p1) := ⟨151, [], [.pointer (some ⟨b2, 0, none⟩)], rfl, Tryz.call151, fun φ1 w1 x y vs le hs ha hm => by obtain rfl := ha; exact w_relay_each_int_1 x p1 b2 pv1 w1 φ1 hs (hC7.le le) (h11.le le) hm⟩
 have q := bnd hm
 obtain ⟨x13, h14, hm15⟩ := q
 refine OKS.callH 0 rfl rfl rfl rfl (Enters.mk rfl rfl Tryz.call150 (mapcons rfl (mapcons rfl mapnil)) rfl) hS9 (fun hs => w_slices_ContainsFunc_int_int p0 pA0 pc0 (fun x => m_relay_each_int_1 x p1) (.func (.func 151) #[] #[.pointer (some ⟨b2, 0, none⟩)]) W1 φ5 hs h10 hF12 h14) (.inr rfl) ?_
 rintro φ16 L17 v18 W19 le20 hS21 ⟨rfl, rfl⟩
 have hS22 : St ⟨w, [], φ⟩ φ16 [] W19 := hS21
 refine OKS.r rfl rfl rfl rfl (fun _ => Runs.notT rfl rfl) ?_
 refine OKS.ra rfl rfl rfl rfl rfl rfl ?_
 refine OKS.e ?_
 refine thenQ_n ?_
 refine CK.ret ?_
 cases hm15
 exact ⟨rfl, _, (res1 rfl), φ16, _, hS22, rfl, rfl⟩

set_option maxHeartbeats 4000000 in
theorem w_relay_classed_1 (p0 : Int) (w : World) (φ : PHeap) (hS : St ⟨w, [], φ⟩ φ [] w)  {r : Bool} (hm : m_relay_classed_1 p0 = some r) : Gv Tryz.prog 104 [.int .i64 p0] w (RetS w [] φ (fun φ_ L_ v => v = .bool r ∧ L_ = [])) := by
 unfold m_relay_classed_1 at hm
 refine Gv.of Tryz.func104 rfl Tryz.ntmps104 Tryz.results104 rfl ?_
 refine CK.seq ?_
 refine CK.reg (ks := []) (.fl 0 (.nil)) rfl ?_
 refine OKS.ra rfl rfl rfl rfl rfl rfl ?_
 refine OKS.e ?_
 refine thenQ_n ?_
 refine CK.seq ?_
 refine CK.reg (ks := []) (.fl 0 (.fx 1 (.fl 2 (.nil)) .stop)) rfl ?_
 refine OKS.rm rfl rfl rfl rfl rfl rfl ?_
 have q := bnd hm
 obtain ⟨x1, h2, hm3⟩ := q
 refine OKS.callH 0 rfl rfl rfl rfl (Enters.mk rfl rfl Tryz.call54 (mapcons rfl (mapcons rfl (mapcons rfl mapnil))) rfl) hS (fun hs => w_relay_in p0 0 3 w φ hs h2) (.inr rfl) ?_
 rintro φ4 L5 v6 W7 le8 hS9 ⟨rfl, rfl⟩
 have hS10 : St ⟨w, [], φ⟩ φ4 [] W7 := hS9
 refine OKS.ra rfl rfl rfl rfl rfl rfl ?_
 refine OKS.e ?_
 refine thenQ_n ?_
 refine CK.ret ?_
 cases hm3
 exact ⟨rfl, _, (res1 rfl), φ4, _, hS10, rfl, rfl⟩

set_option maxHeartbeats 4000000 in
theorem w_relay_classed (p0 : List Int) (pA0 : Option Addr) (pc0 : Nat) (w : World) (φ : PHeap) (hS : St ⟨w, [], φ⟩ φ [] w) (ha0 : Sl φ 1 pA0 pc0 p0.length (List.flatMap encI p0)) {r : Bool} (hm : m_relay_classed p0 = some r) : Gv Tryz.prog 55 [.slice pA0 p0.length pc0] w (RetS w [] φ (fun φ_ L_ v => v = .bool r ∧ L_ = [])) := by
 unfold m_relay_classed at hm
 refine Gv.of Tryz.func55 rfl Tryz.ntmps55 Tryz.results55 rfl ?_
 refine CK.seq ?_
 refine CK.reg (ks := []) (.fl 0 (.nil)) rfl ?_
 refine OKS.ra rfl rfl rfl rfl rfl rfl ?_
 refine OKS.e ?_
 refine thenQ_n ?_
 refine CK.seq ?_
 refine CK.reg (ks := []) (.fl 0 (.fx 1 (.fl 2 (.nil)) .stop)) rfl ?_
 refine OKS.rm rfl rfl rfl rfl rfl rfl ?_
 have hF1 : FnOK Tryz.prog φ (.func (.func 104) #[] #[]) ar179 rr179 m_relay_classed_1 := ⟨104, [], [], rfl, Tryz.call104, fun φ1 w1 x y vs le hs ha hm => by obtain rfl := ha; exact w_relay_classed_1 x w1 φ1 hs  hm⟩
 have q := bnd hm
 obtain ⟨x2, h3, hm4⟩ := q
 refine OKS.callH 0 rfl rfl rfl rfl (Enters.mk rfl rfl Tryz.call100 (mapcons rfl (mapcons rfl mapnil)) rfl) hS (fun hs => w_relay_each_int p0 pA0 pc0 m_relay_classed_1 (.func (.func 104) #[] #[]) w φ hs ha0 hF1 h3) (.inr rfl) ?_
 rintro φ5 L6 v7 W8 le9 hS10 ⟨rfl, rfl⟩
 have hS11 : St ⟨w, [], φ⟩ φ5 [] W8 := hS10
 refine OKS.ra rfl rfl rfl rfl rfl rfl ?_
 refine OKS.e ?_
 refine thenQ_n ?_
 refine CK.ret ?_
 cases hm4
 exact ⟨rfl, _, (res1 rfl), φ5, _, hS11, rfl, rfl⟩

set_option maxHeartbeats 4000000 in
theorem w_relay_limits_1 (p0 : T_relay_Rules) (pA0_0 : Option Addr) (pc0_0 : Nat) (w : World) (φ : PHeap) (hS : St ⟨w, [], φ⟩ φ [] w) (ha0 : Sl φ 1 pA0_0 pc0_0 p0.Classes.length (List.flatMap encI p0.Classes)) {r : Int} (hm : m_relay_limits_1 p0 = some r) : Gv Tryz.prog 107 [.agg #[.slice pA0_0 p0.Classes.length pc0_0, .int .i64 p0.Each, .int .i64 p0.Laps, .int .i64 p0.Spare, .int .i64 p0.Loop, .int .i64 p0.Unused]] w (RetS w [] φ (fun φ_ L_ v => v = .int .i64 r ∧ L_ = [])) := by
 unfold m_relay_limits_1 at hm
 refine Gv.of Tryz.func107 rfl Tryz.ntmps107 Tryz.results107 rfl ?_
 refine CK.seq ?_
 refine CK.reg (ks := []) (.fx 0 (.fl 1 (.nil)) .stop) rfl ?_
 refine OKS.box (cs := [.slice pA0_0 p0.Classes.length pc0_0, .int .i64 p0.Each, .int .i64 p0.Laps, .int .i64 p0.Spare, .int .i64 p0.Loop, .int .i64 p0.Unused]) rfl rfl rfl rfl rfl rfl (by rfl) hS ?_
 intro W1 b2 hS3
 refine OKS.ra rfl rfl rfl rfl rfl rfl ?_
 refine OKS.e ?_
 refine thenQ_n ?_
 refine CK.seq ?_
 refine CK.reg (ks := []) (.fl 0 (.fl 1 (.fl 2 (.nil)))) rfl ?_
 refine OKS.r rfl rfl rfl rfl (fun _ => Runs.fa rfl rfl Tryz.runUnderlying24 rfl Tryz.sizeOf3) ?_
 refine OKS.m rfl rfl rfl rfl (hS3.ldB (j := 0) rfl rfl rfl Tryz.isAgg3 (v := .int .i64 p0.Each) rfl) rfl ?_
 refine OKS.ra rfl rfl rfl rfl rfl rfl ?_
 refine OKS.e ?_
 refine thenQ_n ?_
 refine CK.ret ?_
 cases hm
 exact ⟨rfl, _, (res1 rfl), φ, _, (hS3.pick [] _ (by decide) rfl), rfl, rfl⟩

set_option maxHeartbeats 4000000 in
theorem w_relay_limits_2 (p0 : T_relay_Rules) (pA0_0 : Option Addr) (pc0_0 : Nat) (w : World) (φ : PHeap) (hS : St ⟨w, [], φ⟩ φ [] w) (ha0 : Sl φ 1 pA0_0 pc0_0 p0.Classes.length (List.flatMap encI p0.Classes)) {r : Int} (hm : m_relay_limits_2 p0 = some r) : Gv Tryz.prog 108 [.agg #[.slice pA0_0 p0.Classes.length pc0_0, .int .i64 p0.Each, .int .i64 p0.Laps, .int .i64 p0.Spare, .int .i64 p0.Loop, .int .i64 p0.Unused]] w (RetS w [] φ (fun φ_ L_ v => v = .int .i64 r ∧ L_ = [])) := by
 unfold m_relay_limits_2 at hm
 refine Gv.of Tryz.func108 rfl Tryz.ntmps108 Tryz.results108 rfl ?_
 refine CK.seq ?_
 refine CK.reg (ks := []) (.fx 0 (.fl 1 (.nil)) .stop) rfl ?_
 refine OKS.box (cs := [.slice pA0_0 p0.Classes.length pc0_0, .int .i64 p0.Each, .int .i64 p0.Laps, .int .i64 p0.Spare, .int .i64 p0.Loop, .int .i64 p0.Unused]) rfl rfl rfl rfl rfl rfl (by rfl) hS ?_
 intro W1 b2 hS3
 refine OKS.ra rfl rfl rfl rfl rfl rfl ?_
 refine OKS.e ?_
 refine thenQ_n ?_
 refine CK.seq ?_
 refine CK.reg (ks := []) (.fl 0 (.fl 1 (.fl 2 (.nil)))) rfl ?_
 refine OKS.r rfl rfl rfl rfl (fun _ => Runs.fa rfl rfl Tryz.runUnderlying24 rfl Tryz.sizeOf3) ?_
 refine OKS.m rfl rfl rfl rfl (hS3.ldB (j := 0) rfl rfl rfl Tryz.isAgg3 (v := .int .i64 p0.Laps) rfl) rfl ?_
 refine OKS.ra rfl rfl rfl rfl rfl rfl ?_
 refine OKS.e ?_
 refine thenQ_n ?_
 refine CK.ret ?_
 cases hm
 exact ⟨rfl, _, (res1 rfl), φ, _, (hS3.pick [] _ (by decide) rfl), rfl, rfl⟩

set_option maxHeartbeats 4000000 in
theorem w_relay_limits_3 (p0 : T_relay_Rules) (pA0_0 : Option Addr) (pc0_0 : Nat) (w : World) (φ : PHeap) (hS : St ⟨w, [], φ⟩ φ [] w) (ha0 : Sl φ 1 pA0_0 pc0_0 p0.Classes.length (List.flatMap encI p0.Classes)) {r : Int} (hm : m_relay_limits_3 p0 = some r) : Gv Tryz.prog 109 [.agg #[.slice pA0_0 p0.Classes.length pc0_0, .int .i64 p0.Each, .int .i64 p0.Laps, .int .i64 p0.Spare, .int .i64 p0.Loop, .int .i64 p0.Unused]] w (RetS w [] φ (fun φ_ L_ v => v = .int .i64 r ∧ L_ = [])) := by
 unfold m_relay_limits_3 at hm
 refine Gv.of Tryz.func109 rfl Tryz.ntmps109 Tryz.results109 rfl ?_
 refine CK.seq ?_
 refine CK.reg (ks := []) (.fx 0 (.fl 1 (.nil)) .stop) rfl ?_
 refine OKS.box (cs := [.slice pA0_0 p0.Classes.length pc0_0, .int .i64 p0.Each, .int .i64 p0.Laps, .int .i64 p0.Spare, .int .i64 p0.Loop, .int .i64 p0.Unused]) rfl rfl rfl rfl rfl rfl (by rfl) hS ?_
 intro W1 b2 hS3
 refine OKS.ra rfl rfl rfl rfl rfl rfl ?_
 refine OKS.e ?_
 refine thenQ_n ?_
 refine CK.seq ?_
 refine CK.reg (ks := []) (.fl 0 (.fl 1 (.fl 2 (.nil)))) rfl ?_
 refine OKS.r rfl rfl rfl rfl (fun _ => Runs.fa rfl rfl Tryz.runUnderlying24 rfl Tryz.sizeOf3) ?_
 refine OKS.m rfl rfl rfl rfl (hS3.ldB (j := 0) rfl rfl rfl Tryz.isAgg3 (v := .int .i64 p0.Spare) rfl) rfl ?_
 refine OKS.ra rfl rfl rfl rfl rfl rfl ?_
 refine OKS.e ?_
 refine thenQ_n ?_
 refine CK.ret ?_
 cases hm
 exact ⟨rfl, _, (res1 rfl), φ, _, (hS3.pick [] _ (by decide) rfl), rfl, rfl⟩

set_option maxHeartbeats 4000000 in
theorem w_relay_limits_4 (p0 : T_relay_Rules) (pA0_0 : Option Addr) (pc0_0 : Nat) (w : World) (φ : PHeap) (hS : St ⟨w, [], φ⟩ φ [] w) (ha0 : Sl φ 1 pA0_0 pc0_0 p0.Classes.length (List.flatMap encI p0.Classes)) {r : Int} (hm : m_relay_limits_4 p0 = some r) : Gv Tryz.prog 110 [.agg #[.slice pA0_0 p0.Classes.length pc0_0, .int .i64 p0.Each, .int .i64 p0.Laps, .int .i64 p0.Spare, .int .i64 p0.Loop, .int .i64 p0.Unused]] w (RetS w [] φ (fun φ_ L_ v => v = .int .i64 r ∧ L_ = [])) := by
 unfold m_relay_limits_4 at hm
 refine Gv.of Tryz.func110 rfl Tryz.ntmps110 Tryz.results110 rfl ?_
 refine CK.seq ?_
 refine CK.reg (ks := []) (.fx 0 (.fl 1 (.nil)) .stop) rfl ?_
 refine OKS.box (cs := [.slice pA0_0 p0.Classes.length pc0_0, .int .i64 p0.Each, .int .i64 p0.Laps, .int .i64 p0.Spare, .int .i64 p0.Loop, .int .i64 p0.Unused]) rfl rfl rfl rfl rfl rfl (by rfl) hS ?_
 intro W1 b2 hS3
 refine OKS.ra rfl rfl rfl rfl rfl rfl ?_
 refine OKS.e ?_
 refine thenQ_n ?_
 refine CK.seq ?_
 refine CK.reg (ks := []) (.fl 0 (.fl 1 (.fl 2 (.nil)))) rfl ?_
 refine OKS.r rfl rfl rfl rfl (fun _ => Runs.fa rfl rfl Tryz.runUnderlying24 rfl Tryz.sizeOf3) ?_
 refine OKS.m rfl rfl rfl rfl (hS3.ldB (j := 0) rfl rfl rfl Tryz.isAgg3 (v := .int .i64 p0.Loop) rfl) rfl ?_
 refine OKS.ra rfl rfl rfl rfl rfl rfl ?_
 refine OKS.e ?_
 refine thenQ_n ?_
 refine CK.ret ?_
 cases hm
 exact ⟨rfl, _, (res1 rfl), φ, _, (hS3.pick [] _ (by decide) rfl), rfl, rfl⟩

set_option maxHeartbeats 4000000 in
theorem w_relay_limits_5 (p0 : T_relay_Rules) (pA0_0 : Option Addr) (pc0_0 : Nat) (w : World) (φ : PHeap) (hS : St ⟨w, [], φ⟩ φ [] w) (ha0 : Sl φ 1 pA0_0 pc0_0 p0.Classes.length (List.flatMap encI p0.Classes)) {r : Int} (hm : m_relay_limits_5 p0 = some r) : Gv Tryz.prog 111 [.agg #[.slice pA0_0 p0.Classes.length pc0_0, .int .i64 p0.Each, .int .i64 p0.Laps, .int .i64 p0.Spare, .int .i64 p0.Loop, .int .i64 p0.Unused]] w (RetS w [] φ (fun φ_ L_ v => v = .int .i64 r ∧ L_ = [])) := by
 unfold m_relay_limits_5 at hm
 refine Gv.of Tryz.func111 rfl Tryz.ntmps111 Tryz.results111 rfl ?_
 refine CK.seq ?_
 refine CK.reg (ks := []) (.fx 0 (.fl 1 (.nil)) .stop) rfl ?_
 refine OKS.box (cs := [.slice pA0_0 p0.Classes.length pc0_0, .int .i64 p0.Each, .int .i64 p0.Laps, .int .i64 p0.Spare, .int .i64 p0.Loop, .int .i64 p0.Unused]) rfl rfl rfl rfl rfl rfl (by rfl) hS ?_
 intro W1 b2 hS3
 refine OKS.ra rfl rfl rfl rfl rfl rfl ?_
 refine OKS.e ?_
 refine thenQ_n ?_
 refine CK.seq ?_
 refine CK.reg (ks := []) (.fl 0 (.fl 1 (.fl 2 (.nil)))) rfl ?_
 refine OKS.r rfl rfl rfl rfl (fun _ => Runs.fa rfl rfl Tryz.runUnderlying24 rfl Tryz.sizeOf3) ?_
 refine OKS.m rfl rfl rfl rfl (hS3.ldB (j := 0) rfl rfl rfl Tryz.isAgg3 (v := .int .i64 p0.Unused) rfl) rfl ?_
 refine OKS.ra rfl rfl rfl rfl rfl rfl ?_
 refine OKS.e ?_
 refine thenQ_n ?_
 refine CK.ret ?_
 cases hm
 exact ⟨rfl, _, (res1 rfl), φ, _, (hS3.pick [] _ (by decide) rfl), rfl, rfl⟩

set_option maxHeartbeats 4000000 in
theorem w_relay_limits  (w : World) (φ : PHeap) (hS : St ⟨w, [], φ⟩ φ [] w)  {r : (List T_relay_limit)} (hm : m_relay_limits  = some r) : Gv Tryz.prog 57 [] w (RetS w [] φ (fun φ_ L_ v => ∃ (A0 : Option Addr) (c0 : Nat) (cs0 : List Value), v = .slice A0 r.length c0 ∧ L_ = [.row A0 c0 118 3 cs0] ∧ RlL φ_ rl118 r cs0)) := by
 unfold m_relay_limits at hm
 refine Gv.of Tryz.func57 rfl Tryz.ntmps57 Tryz.results57 rfl ?_
 refine CK.seq ?_
 refine CK.reg (ks := []) (.fl 0 (.nil)) rfl ?_
 refine OKS.ra rfl rfl rfl rfl rfl rfl ?_
 refine OKS.e ?_
 refine thenQ_n ?_
 refine CK.seq ?_
 refine CK.reg (ks := []) (.fl 0 (.fl 1 (.fl 2 (.fl 3 (.fl 4 (.fx 5 (.fl 6 (.nil)) .stop)))))) rfl ?_
 refine OKS.r rfl rfl rfl rfl (fun _ => Runs.build (pv := [(0, .func (.func 107) #[] #[]), (1, .int .i64 1), (2, .int .i64 4)]) (z := [.nilFunc, .int .i64 0, .int .i64 0]) (cs := [.func (.func 107) #[] #[], .int .i64 1, .int .i64 4]) rfl (mapcons2 rfl (mapcons2 rfl (mapcons2 rfl mapnil2))) Tryz.zeroValue118 places118 rfl rfl) ?_
 refine OKS.r rfl rfl rfl rfl (fun _ => Runs.build (pv := [(0, .func (.func 108) #[] #[]), (1, .int .i64 1), (2, .int .i64 5)]) (z := [.nilFunc, .int .i64 0, .int .i64 0]) (cs := [.func (.func 108) #[] #[], .int .i64 1, .int .i64 5]) rfl (mapcons2 rfl (mapcons2 rfl (mapcons2 rfl mapnil2))) Tryz.zeroValue118 places118 rfl rfl) ?_
 refine OKS.r rfl rfl rfl rfl (fun _ => Runs.build (pv := [(0, .func (.func 109) #[] #[]), (1, .int .i64 0), (2, .int .i64 600)]) (z := [.nilFunc, .int .i64 0, .int .i64 0]) (cs := [.func (.func 109) #[] #[], .int .i64 0, .int .i64 600]) rfl (mapcons2 rfl (mapcons2 rfl (mapcons2 rfl mapnil2))) Tryz.zeroValue118 places118 rfl rfl) ?_
 refine OKS.r rfl rfl rfl rfl (fun _ => Runs.build (pv := [(0, .func (.func 110) #[] #[]), (1, .int .i64 0), (2, .int .i64 600)]) (z := [.nilFunc, .int .i64 0, .int .i64 0]) (cs := [.func (.func 110) #[] #[], .int .i64 0, .int .i64 600]) rfl (mapcons2 rfl (mapcons2 rfl (mapcons2 rfl mapnil2))) Tryz.zeroValue118 places118 rfl rfl) ?_
 refine OKS.r rfl rfl rfl rfl (fun _ => Runs.build (pv := [(0, .func (.func 111) #[] #[]), (1, .int .i64 0), (2, .int .i64 6000)]) (z := [.nilFunc, .int .i64 0, .int .i64 0]) (cs := [.func (.func 111) #[] #[], .int .i64 0, .int .i64 6000]) rfl (mapcons2 rfl (mapcons2 rfl (mapcons2 rfl mapnil2))) Tryz.zeroValue118 places118 rfl rfl) ?_
 refine OKS.buildSlice (pv := [(0, .agg #[.func (.func 107) #[] #[], .int .i64 1, .int .i64 4]), (1, .agg #[.func (.func 108) #[] #[], .int .i64 1, .int .i64 5]), (2, .agg #[.func (.func 109) #[] #[], .int .i64 0, .int .i64 600]), (3, .agg #[.func (.func 110) #[] #[], .int .i64 0, .int .i64 600]), (4, .agg #[.func (.func 111) #[] #[], .int .i64 0, .int .i64 6000])]) (zs := [.nilFunc, .int .i64 0, .int .i64 0, .nilFunc, .int .i64 0, .int .i64 0, .nilFunc, .int .i64 0, .int .i64 0, .nilFunc, .int .i64 0, .int .i64 0, .nilFunc, .int .i64 0, .int .i64 0]) (cs := [.func (.func 107) #[] #[], .int .i64 1, .int .i64 4, .func (.func 108) #[] #[], .int .i64 1, .int .i64 5, .func (.func 109) #[] #[], .int .i64 0, .int .i64 600, .func (.func 110) #[] #[], .int .i64 0, .int .i64 600, .func (.func 111) #[] #[], .int .i64 0, .int .i64 6000]) rfl rfl rfl rfl rfl (mapcons2 rfl (mapcons2 rfl (mapcons2 rfl (mapcons2 rfl (mapcons2 rfl mapnil2))))) Tryz.runUnderlying119 Tryz.sizeOf118 Tryz.zeroValue118 rfl rfl rfl rfl rfl hS ?_
 intro W1 b2 hS3
 have hF5 : FnOK Tryz.prog φ (.func (.func 111) #[] #[]) ar116 rr116 m_relay_limits_5 := ⟨111, [], [], rfl, Tryz.call111, fun φ1 w1 x y vs le hs ha hm => by obtain ⟨pA_0_0, pc_0_0, rfl, hq0_0⟩ := ha; exact w_relay_limits_5 x pA_0_0 pc_0_0 w1 φ1 hs hq0_0 hm⟩
 have hF6 : FnOK Tryz.prog φ (.func (.func 110) #[] #[]) ar116 rr116 m_relay_limits_4 := ⟨110, [], [], rfl, Tryz.call110, fun φ1 w1 x y vs le hs ha hm => by obtain ⟨pA_0_0, pc_0_0, rfl, hq0_0⟩ := ha; exact w_relay_limits_4 x pA_0_0 pc_0_0 w1 φ1 hs hq0_0 hm⟩
 have hF7 : FnOK Tryz.prog φ (.func (.func 109) #[] #[]) ar116 rr116 m_relay_limits_3 := ⟨109, [], [], rfl, Tryz.call109, fun φ1 w1 x y vs le hs ha hm => by obtain ⟨pA_0_0, pc_0_0, rfl, hq0_0⟩ := ha; exact w_relay_limits_3 x pA_0_0 pc_0_0 w1 φ1 hs hq0_0 hm⟩
 have hF8 : FnOK Tryz.prog φ (.func (.func 108) #[] #[]) ar116 rr116 m_relay_limits_2 := ⟨108, [], [], rfl, Tryz.call108, fun φ1 w1 x y vs le hs ha hm => by obtain ⟨pA_0_0, pc_0_0, rfl, hq0_0⟩ := ha; exact w_relay_limits_2 x pA_0_0 pc_0_0 w1 φ1 hs hq0_0 hm⟩
 have hF9 : FnOK Tryz.prog φ (.func (.func 107) #[] #[]) ar116 rr116 m_relay_limits_1 := ⟨107, [], [], rfl, Tryz.call107, fun φ1 w1 x y vs le hs ha hm => by obtain ⟨pA_0_0, pc_0_0, rfl, hq0_0⟩ := ha; exact w_relay_limits_1 x pA_0_0 pc_0_0 w1 φ1 hs hq0_0 hm⟩
 have hr10 : RlL φ rl118 [(⟨m_relay_limits_1, 1, 4⟩ : T_relay_limit), (⟨m_relay_limits_2, 1, 5⟩ : T_relay_limit), (⟨m_relay_limits_3, 0, 600⟩ : T_relay_limit), (⟨m_relay_limits_4, 0, 600⟩ : T_relay_limit), (⟨m_relay_limits_5, 0, 6000⟩ : T_relay_limit)] [.func (.func 107) #[] #[], .int .i64 1, .int .i64 4, .func (.func 108) #[] #[], .int .i64 1, .int .i64 5, .func (.func 109) #[] #[], .int .i64 0, .int .i64 600, .func (.func 110) #[] #[], .int .i64 0, .int .i64 600, .func (.func 111) #[] #[], .int .i64 0, .int .i64 6000] := (RlL.cons (R := rl118) (x := (⟨m_relay_limits_1, 1, 4⟩ : T_relay_limit)) (vs := [.func (.func 107) #[] #[], .int .i64 1, .int .i64 4]) ⟨(.func (.func 107) #[] #[]), rfl, hF9⟩ (RlL.cons (R := rl118) (x := (⟨m_relay_limits_2, 1, 5⟩ : T_relay_limit)) (vs := [.func (.func 108) #[] #[], .int .i64 1, .int .i64 5]) ⟨(.func (.func 108) #[] #[]), rfl, hF8⟩ (RlL.cons (R := rl118) (x := (⟨m_relay_limits_3, 0, 600⟩ : T_relay_limit)) (vs := [.func (.func 109) #[] #[], .int .i64 0, .int .i64 600]) ⟨(.func (.func 109) #[] #[]), rfl, hF7⟩ (RlL.cons (R := rl118) (x := (⟨m_relay_limits_4, 0, 600⟩ : T_relay_limit)) (vs := [.func (.func 110) #[] #[], .int .i64 0, .int .i64 600]) ⟨(.func (.func 110) #[] #[]), rfl, hF6⟩ (RlL.cons (R := rl118) (x := (⟨m_relay_limits_5, 0, 6000⟩ : T_relay_limit)) (vs := [.func (.func 111) #[] #[], .int .i64 0, .int .i64 6000]) ⟨(.func (.func 111) #[] #[]), rfl, hF5⟩ RlL.nil)))))
 have hS11 : St ⟨w, [], φ⟩ φ [.row (some ⟨b2, 0, none⟩) 5 118 3 [.func (.func 107) #[] #[], .int .i64 1, .int .i64 4, .func (.func 108) #[] #[], .int .i64 1, .int .i64 5, .func (.func 109) #[] #[], .int .i64 0, .int .i64 600, .func (.func 110) #[] #[], .int .i64 0, .int .i64 600, .func (.func 111) #[] #[], .int .i64 0, .int .i64 6000]] W1 := hS3
 refine OKS.ra rfl rfl rfl rfl rfl rfl ?_
 refine OKS.e ?_
 refine thenQ_n ?_
 refine CK.ret ?_
 cases hm
 exact ⟨rfl, _, (res1 rfl), φ, _, hS11, (some ⟨b2, 0, none⟩), 5, [.func (.func 107) #[] #[], .int .i64 1, .int .i64 4, .func (.func 108) #[] #[], .int .i64 1, .int .i64 5, .func (.func 109) #[] #[], .int .i64 0, .int .i64 600, .func (.func 110) #[] #[], .int .i64 0, .int .i64 600, .func (.func 111) #[] #[], .int .i64 0, .int .i64 6000], rfl, rfl, hr10⟩

set_option maxHeartbeats 4000000 in
theorem w_relay_CheckRules_1 (p0 : T_relay_limit) (pv0_0 : Value) (p1 : T_relay_Rules) (pb1 : Nat) (pA1_0 : Option Addr) (pc1_0 : Nat) (w : World) (φ : PHeap) (hS : St ⟨w, [], φ⟩ φ [] w) (ha0 : FnOK Tryz.prog φ pv0_0 ar116 rr116 p0.of) (ha1 : Cl φ pb1 0 [.slice pA1_0 p1.Classes.length pc1_0, .int .i64 p1.Each, .int .i64 p1.Laps, .int .i64 p1.Spare, .int .i64 p1.Loop, .int .i64 p1.Unused]) (ha2 : Sl φ 1 pA1_0 pc1_0 p1.Classes.length (List.flatMap encI p1.Classes)) {r : Bool} (hm : m_relay_CheckRules_1 p0 p1 = some r) : Gv Tryz.prog 58 [.agg #[pv0_0, .int .i64 p0.lo, .int .i64 p0.hi], .pointer (some ⟨pb1, 0, none⟩)] w (RetS w [] φ (fun φ_ L_ v => v = .bool r ∧ L_ = [])) := by
 unfold m_relay_CheckRules_1 at hm
 refine Gv.of Tryz.func58 rfl Tryz.ntmps58 Tryz.results58 rfl ?_
 refine CK.seq ?_
 refine CK.reg (ks := []) (.fx 0 (.fl 1 (.nil)) .stop) rfl ?_
 refine OKS.box (cs := [pv0_0, .int .i64 p0.lo, .int .i64 p0.hi]) rfl rfl rfl rfl rfl rfl (by rfl) hS ?_
 intro W1 b2 hS3
 refine OKS.ra rfl rfl rfl rfl rfl rfl ?_
 refine OKS.e ?_
 refine thenQ_n ?_
 refine CK.seq ?_
 refine CK.anyOrd Tryz.mixed [3, 1, 1, 2, 3, 1, 3, 1, 2, 3] (.fl 0 (.fl 1 (.fl 2 (.fl 4 (.fl 5 (.fl 6 (.fl 7 (.fx 3 (.fx 8 (.fl 9 (.nil)) .stop) .stop)))))))) (by kernel_rfl) ?_
 have hS5 := hS3.drew
 generalize hw_W6 : ({ W1 with drawn := W1.drawn + 1 } : World) = W6 at hS5 ⊢
 refine OKS.r rfl rfl rfl rfl (fun _ => Runs.fa rfl rfl Tryz.runUnderlying118 rfl Tryz.sizeOf116) ?_
 refine OKS.m rfl rfl rfl rfl (hS5.ldB (j := 0) rfl rfl rfl Tryz.isAgg116 (v := pv0_0) rfl) rfl ?_
 refine OKS.m rfl rfl rfl rfl (hS5.ldCA (f := 0) ha1 rfl rfl Tryz.isAgg24 Tryz.sizeOf24 (us := [.slice pA1_0 p1.Classes.length pc1_0, .int .i64 p1.Each, .int .i64 p1.Laps, .int .i64 p1.Spare, .int .i64 p1.Loop, .int .i64 p1.Unused]) rfl rfl) rfl ?_
 refine OKS.r rfl rfl rfl rfl (fun _ => Runs.fa rfl rfl Tryz.runUnderlying118 rfl Tryz.sizeOf3) ?_
 refine OKS.m rfl rfl rfl rfl (hS5.ldB (j := 0) rfl rfl rfl Tryz.isAgg3 (v := .int .i64 p0.lo) rfl) rfl ?_
 refine OKS.r rfl rfl rfl rfl (fun _ => Runs.fa rfl rfl Tryz.runUnderlying118 rfl Tryz.sizeOf3) ?_
 refine OKS.m rfl rfl rfl rfl (hS5.ldB (j := 0) rfl rfl rfl Tryz.isAgg3 (v := .int .i64 p0.hi) rfl) rfl ?_
 have q := bnd hm
 obtain ⟨x7, h8, hm9⟩ := q
 refine OKS.callV (a := p1) rfl rfl rfl rfl rfl rfl (mapcons rfl mapnil) hS5 ha0 ⟨pA1_0, pc1_0, rfl, ha2⟩ h8 ?_
 rintro φ10 L11 v12 W13 le14 hS15 ⟨rfl, rfl⟩
 have hS16 : St ⟨w, [], φ⟩ φ10 [.blk b2 118 [pv0_0, .int .i64 p0.lo, .int .i64 p0.hi]] W13 := hS15
 have q := bnd hm9
 obtain ⟨x17, h18, hm19⟩ := q
 refine OKS.callH 0 rfl rfl rfl rfl (Enters.mk rfl rfl Tryz.call54 (mapcons rfl (mapcons rfl (mapcons rfl mapnil))) rfl) hS16 (fun hs => w_relay_in x7 p0.lo p0.hi W13 φ10 hs h18) (.inr rfl) ?_
 rintro φ20 L21 v22 W23 le24 hS25 ⟨rfl, rfl⟩
 have hS26 : St ⟨w, [], φ⟩ φ20 [.blk b2 118 [pv0_0, .int .i64 p0.lo, .int .i64 p0.hi]] W23 := hS25
 refine OKS.ra rfl rfl rfl rfl rfl rfl ?_
 refine OKS.e ?_
 refine thenQ_n ?_
 refine CK.ret ?_
 cases hm19
 exact ⟨rfl, _, (res1 rfl), φ20, _, (hS26.pick [] _ (by decide) rfl), rfl, rfl⟩

set_option maxHeartbeats 4000000 in
theorem w_relay_each_relay_limit_1 (p0 : T_relay_limit) (pv0_0 : Value) (p1 : (T_relay_limit → Option Bool)) (pb1 : Nat) (pv1 : Value) (w : World) (φ : PHeap) (hS : St ⟨w, [], φ⟩ φ [] w) (ha0 : FnOK Tryz.prog φ pv0_0 ar116 rr116 p0.of) (ha1 : Cl φ pb1 0 [pv1]) (ha2 : FnOK Tryz.prog φ pv1 ar121 rr121 p1) {r : Bool} (hm : m_relay_each_relay_limit_1 p0 p1 = some r) : Gv Tryz.prog 106 [.agg #[pv0_0, .int .i64 p0.lo, .int .i64 p0.hi], .pointer (some ⟨pb1, 0, none⟩)] w (RetS w [] φ (fun φ_ L_ v => v = .bool r ∧ L_ = [])) := by
 unfold m_relay_each_relay_limit_1 at hm
 refine Gv.of Tryz.func106 rfl Tryz.ntmps106 Tryz.results106 rfl ?_
 refine CK.seq ?_
 refine CK.reg (ks := []) (.fx 0 (.fl 1 (.nil)) .stop) rfl ?_
 refine OKS.box (cs := [pv0_0, .int .i64 p0.lo, .int .i64 p0.hi]) rfl rfl rfl rfl rfl rfl (by rfl) hS ?_
 intro W1 b2 hS3
 refine OKS.ra rfl rfl rfl rfl rfl rfl ?_
 refine OKS.e ?_
 refine thenQ_n ?_
 refine CK.seq ?_
 refine CK.reg (ks := []) (.fl 0 (.fl 1 (.fx 2 (.fl 3 (.fl 4 (.nil))) .stop))) rfl ?_
 refine OKS.m rfl rfl rfl rfl (hS3.ldC (f := 0) ha1 (v := pv1) rfl rfl Tryz.isAgg121 rfl) rfl ?_
 refine OKS.m rfl rfl rfl rfl (hS3.ldBA (j := 0) rfl rfl rfl Tryz.isAgg118 Tryz.sizeOf118 (vs := [pv0_0, .int .i64 p0.lo, .int .i64 p0.hi]) rfl rfl) rfl ?_
 have q := bnd hm
 obtain ⟨x5, h6, hm7⟩ := q
 refine OKS.callV (a := p0) rfl rfl rfl rfl rfl rfl (mapcons rfl mapnil) hS3 ha2 ⟨pv0_0, rfl, ha0⟩ h6 ?_
 rintro φ8 L9 v10 W11 le12 hS13 ⟨rfl, rfl⟩
 have hS14 : St ⟨w, [], φ⟩ φ8 [.blk b2 118 [pv0_0, .int .i64 p0.lo, .int .i64 p0.hi]] W11 := hS13
 refine OKS.r rfl rfl rfl rfl (fun _ => Runs.notT rfl rfl) ?_
 refine OKS.ra rfl rfl rfl rfl rfl rfl ?_
 refine OKS.e ?_
 refine thenQ_n ?_
 refine CK.ret ?_
 cases hm7
 exact ⟨rfl, _, (res1 rfl), φ8, _, (hS14.pick [] _ (by decide) rfl), rfl, rfl⟩

set_option maxHeartbeats 4000000 in
theorem w_slices_IndexFunc_relay_limit_relay_limit (p0 : List T_relay_limit) (pA0 : Option Addr) (pc0 : Nat) (p1 : (T_relay_limit → Option Bool)) (pv1 : Value) (w : World) (φ : PHeap) (hS : St ⟨w, [], φ⟩ φ [] w) (ha0 : SlR φ rl118 pA0 pc0 p0) (ha1 : FnOK Tryz.prog φ pv1 ar121 rr121 p1) {r : Int} (hm : m_slices_IndexFunc_relay_limit_relay_limit p0 p1 = some r) : Gv Tryz.prog 152 [.slice pA0 p0.length pc0, pv1] w (RetS w [] φ (fun φ_ L_ v => v = .int .i64 r ∧ L_ = [])) := by
 unfold m_slices_IndexFunc_relay_limit_relay_limit at hm
 refine Gv.of Tryz.func152 rfl Tryz.ntmps152 Tryz.results152 rfl ?_
 refine CK.seq ?_
 refine CK.reg (ks := []) (.fl 0 (.nil)) rfl ?_
 refine OKS.ra rfl rfl rfl rfl rfl rfl ?_
 refine OKS.e ?_
 refine thenQ_n ?_
 refine CK.seq ?_
 refine CK.seq ?_
 refine CK.reg (ks := []) (.fl 0 (.fl 1 (.fl 2 (.nil)))) rfl ?_
 refine OKS.rm rfl rfl rfl rfl rfl rfl ?_
 refine OKS.r rfl rfl rfl rfl (fun _ => Runs.len rfl rfl Tryz.runUnderlying119) ?_
 refine OKS.rm rfl rfl rfl rfl rfl rfl ?_
 refine OKS.e ?_
 refine thenQ_n ?_
 refine CK.block ?_
 have q := jn_some hm
 obtain ⟨r3, hX4⟩ := q
 have q := forR_le hX4
 obtain ⟨hle5, hf6⟩ := q
 replace hle5 := Hid.mk hle5
 refine CK.forN (fun k2 _ σ_ w_ => ∃ (φ_ : PHeap), σ_ 8 = .int .i64 (↑k2 : Int) ∧ σ_ 0 = .slice pA0 p0.length pc0 ∧ σ_ 1 = pv1 ∧ σ_ 7 = .int .i64 (↑p0.length : Int) ∧ PHeap.Le φ φ_ ∧ St ⟨w, [], φ⟩ φ_ [] w_) hf6 ?_ ?_ ?_
 ·exact ⟨φ, rfl, rfl, rfl, rfl, (PHeap.Le.refl _), hS⟩
 ·rintro k2 ⟨⟩ xx9 σ7 W8 hk12 ⟨φ14, fi13, f17, f18, f19, le15, hS16⟩ hx10 hb11
  try dsimp only at hx10
  have c20 : Hid ((↑k2 : Int) < (↑p0.length : Int)) := Hid.mk (lp_lt0 hk12)
  replace hk12 := Hid.mk hk12
  have hi21 : Hid (w64 ((↑k2 : Int) + 1) = (↑(k2 + 1) : Int)) := Hid.mk (by have h1 := hle5.out; have h2 := c20.out; rw [w64_in] <;> omega)
  refine CK.seq ?_
  refine CK.reg (ks := []) (.fl 0 (.nil)) rfl ?_
  refine OKS.r rfl rfl rfl rfl (fun _ => Runs.lss rfl fi13 f19) ?_
  refine OKS.e ?_
  refine thenQ_n ?_
  refine CK.seq ?_
  refine CK.condT (decT c20.out) ?_
  refine CK.skip ?_
  refine thenQ_n ?_
  refine CK.seq ?_
  refine CK.block ?_
  refine CK.seq ?_
  refine CK.reg (ks := []) (.fl 0 (.fl 1 (.nil))) rfl ?_
  refine OKS.rm rfl rfl rfl rfl rfl fi13 ?_
  refine OKS.ra rfl rfl rfl rfl rfl rfl ?_
  refine OKS.e ?_
  refine thenQ_n ?_
  refine CK.seq ?_
  refine CK.reg (ks := []) (.fl 0 (.fl 1 (.fl 2 (.fl 3 (.fl 4 (.fx 5 (.nil) .stop)))))) rfl ?_
  refine OKS.rm rfl rfl rfl rfl rfl f18 ?_
  refine OKS.rm rfl rfl rfl rfl rfl f17 ?_
  refine OKS.rm rfl rfl rfl rfl rfl rfl ?_
  have q := bnd hx10
  obtain ⟨x22, h23, hm24⟩ := q
  have h25 := ha0.le le15
  have q := h25.el (idx_get h23)
  obtain ⟨b26, off27, vs30, hA28, hC29, hr31⟩ := q
  obtain ⟨pv32, rfl, h33⟩ := hr31
  replace hC29 : Cl φ14 b26 (off27 + k2 * 3) [pv32, .int .i64 x22.lo, .int .i64 x22.hi] := hC29
  refine OKS.r rfl rfl rfl rfl (fun _ => Runs.iaN rfl rfl hA28 rfl Tryz.runUnderlying119 Tryz.sizeOf118 (idx_lt h23)) ?_
  refine OKS.m rfl rfl rfl rfl (hS16.ldCA (f := 0) hC29 rfl rfl Tryz.isAgg118 Tryz.sizeOf118 (us := [pv32, .int .i64 x22.lo, .int .i64 x22.hi]) rfl rfl) rfl ?_
  have q := bnd hm24
  obtain ⟨x34, h35, hm36⟩ := q
  have h43 := ha1.le le15
  refine OKS.callV (a := x22) rfl rfl rfl rfl rfl rfl (mapcons rfl mapnil) hS16 h43 ⟨pv32, rfl, h33⟩ h35 ?_
  rintro φ37 L38 v39 W40 le41 hS42 ⟨rfl, rfl⟩
  have hS44 : St ⟨w, [], φ⟩ φ37 [] W40 := hS42
  refine OKS.e ?_
  refine thenQ_n ?_
  by_cases c45 : x34 = true
  ·have hm46 := hm36; rw [if_pos c45] at hm46; replace c45 := Hid.mk c45
   refine CK.condT (congrArg Value.bool c45.out) ?_
   refine CK.seq ?_
   refine CK.reg (ks := []) (.fl 0 (.fl 1 (.nil))) rfl ?_
   refine OKS.rm rfl rfl rfl rfl rfl rfl ?_
   refine OKS.ra rfl rfl rfl rfl rfl rfl ?_
   refine OKS.e ?_
   refine thenQ_n ?_
   refine CK.ret ?_
   refine blockQ_r ?_
   refine thenQ_r ?_
   have q := esc_spec hm46
   obtain ⟨v47, hm48, e49⟩ := q
   obtain rfl := jn_inr hm hX4 (hb11 v47 e49)
   refine thenQ_r ?_
   refine blockQ_r ?_
   refine thenQ_r ?_
   cases hm48
   exact ⟨rfl, _, (res1 rfl), φ37, _, hS44, rfl, rfl⟩
  ·have hm50 := hm36; rw [if_neg c45] at hm50; replace c45 := Hid.mk c45
   refine CK.condF (congrArg Value.bool (Bool.eq_false_iff.2 c45.out)) ?_
   refine CK.skip ?_
   refine blockQ_n ?_
   refine thenQ_n ?_
   refine CK.reg (ks := []) (.fl 0 (.fl 1 (.nil))) rfl ?_
   refine OKS.r rfl rfl rfl rfl (fun _ => Runs.to (Runs.addw rfl fi13 rfl) (congrArg (Value.int .i64) hi21.out)) ?_
   refine OKS.rm rfl rfl rfl rfl rfl rfl ?_
   refine OKS.e ?_
   obtain rfl := Option.some.inj hm50
   exact thenQ_n ⟨rfl, _, rfl, ⟨φ37, rfl, f17, f18, f19, (le15.trans le41), hS44⟩⟩
 ·rintro ⟨⟩ σ51 W52 ⟨φ55, fi54, f58, f59, f60, le56, hS57⟩ hb53
  have hm61 := jn_inl hm hX4 hb53
  try dsimp only at hm61
  have c62 : Hid (¬ ((↑(((↑p0.length : Int) : Int) - 0).toNat : Int) < (↑p0.length : Int))) := Hid.mk (lp_end0)
  refine CK.seq ?_
  refine CK.reg (ks := []) (.fl 0 (.nil)) rfl ?_
  refine OKS.r rfl rfl rfl rfl (fun _ => Runs.lss rfl fi54 f60) ?_
  refine OKS.e ?_
  refine thenQ_n ?_
  refine CK.seq ?_
  refine CK.condF (decF c62.out) ?_
  refine CK.exit ?_
  refine thenQ_e ?_
  refine thenQ_e ?_
  refine blockQ_h ?_
  refine thenQ_n ?_
  refine CK.seq ?_
  refine CK.reg (ks := []) (.fl 0 (.nil)) rfl ?_
  refine OKS.ra rfl rfl rfl rfl rfl rfl ?_
  refine OKS.e ?_
  refine thenQ_n ?_
  refine CK.ret ?_
  cases hm61
  exact ⟨rfl, _, (res1 rfl), φ55, _, hS57, rfl, rfl⟩

set_option maxHeartbeats 4000000 in
theorem w_slices_ContainsFunc_relay_limit_relay_limit (p0 : List T_relay_limit) (pA0 : Option Addr) (pc0 : Nat) (p1 : (T_relay_limit → Option Bool)) (pv1 : Value) (w : World) (φ : PHeap) (hS : St ⟨w, [], φ⟩ φ [] w) (ha0 : SlR φ rl118 pA0 pc0 p0) (ha1 : FnOK Tryz.prog φ pv1 ar121 rr121 p1) {r : Bool} (hm : m_slices_ContainsFunc_relay_limit_relay_limit p0 p1 = some r) : Gv Tryz.prog 105 [.slice pA0 p0.length pc0, pv1] w (RetS w [] φ (fun φ_ L_ v => v = .bool r ∧ L_ = [])) := by
 unfold m_slices_ContainsFunc_relay_limit_relay_limit at hm
 refine Gv.of Tryz.func105 rfl Tryz.ntmps105 Tryz.results105 rfl ?_
 refine CK.seq ?_
 refine CK.reg (ks := []) (.fl 0 (.nil)) rfl ?_
 refine OKS.ra rfl rfl rfl rfl rfl rfl ?_
 refine OKS.e ?_
 refine thenQ_n ?_
 refine CK.seq ?_
 refine CK.reg (ks := []) (.fl 0 (.fl 1 (.fx 2 (.fl 3 (.fl 4 (.nil))) .stop))) rfl ?_
 refine OKS.rm rfl rfl rfl rfl rfl rfl ?_
 refine OKS.rm rfl rfl rfl rfl rfl rfl ?_
 have q := bnd hm
 obtain ⟨x1, h2, hm3⟩ := q
 refine OKS.callH 0 rfl rfl rfl rfl (Enters.mk rfl rfl Tryz.call152 (mapcons rfl (mapcons rfl mapnil)) rfl) hS (fun hs => w_slices_IndexFunc_relay_limit_relay_limit p0 pA0 pc0 p1 pv1 w φ hs ha0 ha1 h2) (.inr rfl) ?_
 rintro φ4 L5 v6 W7 le8 hS9 ⟨rfl, rfl⟩
 have hS10 : St ⟨w, [], φ⟩ φ4 [] W7 := hS9
 refine OKS.r rfl rfl rfl rfl (fun _ => Runs.geq rfl rfl rfl) ?_
 refine OKS.ra rfl rfl rfl rfl rfl rfl ?_
 refine OKS.e ?_
 refine thenQ_n ?_
 refine CK.ret ?_
 cases hm3
 exact ⟨rfl, _, (res1 rfl), φ4, _, hS10, rfl, rfl⟩

set_option maxHeartbeats 4000000 in
theorem w_relay_each_relay_limit (p0 : List T_relay_limit) (pA0 : Option Addr) (pc0 : Nat) (p1 : (T_relay_limit → Option Bool)) (pv1 : Value) (w : World) (φ : PHeap) (hS : St ⟨w, [], φ⟩ φ [] w) (ha0 : SlR φ rl118 pA0 pc0 p0) (ha1 : FnOK Tryz.prog φ pv1 ar121 rr121 p1) {r : Bool} (hm : m_relay_each_relay_limit p0 p1 = some r) : Gv Tryz.prog 56 [.slice pA0 p0.length pc0, pv1] w (RetS w [] φ (fun φ_ L_ v => v = .bool r ∧ L_ = [])) := by
 unfold m_relay_each_relay_limit at hm
 refine Gv.of Tryz.func56 rfl Tryz.ntmps56 Tryz.results56 rfl ?_
 refine CK.seq ?_
 refine CK.reg (ks := []) (.fx 0 (.fl 1 (.nil)) .stop) rfl ?_
 refine OKS.box (cs := [pv1]) rfl rfl rfl rfl rfl rfl (FnOK.cells ha1) hS ?_
 intro W1 b2 hS3
 have q := hS3.freeze (k := 0) rfl
 obtain ⟨φ5, le6, hC7, hS8⟩ := q
 replace hC7 := Cl.of hC7
 have hS9 : St ⟨w, [], φ⟩ φ5 [] W1 := hS8
 replace hC7 : Cl φ5 b2 0 [pv1] := hC7
 refine OKS.ra rfl rfl rfl rfl rfl rfl ?_
 refine OKS.e ?_
 refine thenQ_n ?_
 refine CK.seq ?_
 refine CK.reg (ks := []) (.fl 0 (.fl 1 (.fx 2 (.fl 3 (.fl 4 (.nil))) .stop))) rfl ?_
 refine OKS.rm rfl rfl rfl rfl rfl rfl ?_
 refine OKS.r rfl rfl rfl rfl (fun _ => Runs.mkf rfl mapnil (mapcons rfl mapnil)) ?_
 have h10 := ha0.le le6
 have h11 := ha1.le le6
 have hF12 : FnOK Tryz.prog φ5 (.func (.func 106) #[] #[.pointer (some ⟨b2, 0, none⟩)]) ar121 rr121 (fun x => m_relay_each_relay_limit_1 x p1) := ⟨106, [], [.pointer (some ⟨b2, 0, none⟩)], rfl, Tryz.call106, fun φ1 w1 x y vs le hs ha hm => by obtain ⟨pv_0_0, rfl, hq0_0⟩ := ha; exact w_relay_each_relay_limit_1 x pv_0_0 p1 b2 pv1 w1 φ1 hs hq0_0 (hC7.le le) (h11.le le) hm⟩
 have q := bnd hm
 obtain ⟨x13, h14, hm15⟩ := q
 refine OKS.callH 0 rfl rfl rfl rfl (Enters.mk rfl rfl Tryz.call105 (mapcons rfl (mapcons rfl mapnil)) rfl) hS9 (fun hs => w_slices_ContainsFunc_relay_limit_relay_limit p0 pA0 pc0 (fun x => m_relay_each_relay_limit_1 x p1) (.func (.func 106) #[] #[.pointer (some ⟨b2, 0, none⟩)]) W1 φ5 hs h10 hF12 h14) (.inr rfl) ?_
 rintro φ16 L17 v18 W19 le20 hS21 ⟨rfl, rfl⟩
 have hS22 : St ⟨w, [], φ⟩ φ16 [] W19 := hS21
 refine OKS.r rfl rfl rfl rfl (fun _ => Runs.notT rfl rfl) ?_
 refine OKS.ra rfl rfl rfl rfl rfl rfl ?_
 refine OKS.e ?_
 refine thenQ_n ?_
 refine CK.ret ?_
 cases hm15
 exact ⟨rfl, _, (res1 rfl), φ16, _, hS22, rfl, rfl⟩

set_option maxHeartbeats 4000000 in
theorem w_relay_CheckRules (p0 : T_relay_Rules) (pA0_0 : Option Addr) (pc0_0 : Nat) (w : World) (φ : PHeap) (hS : St ⟨w, [], φ⟩ φ [] w) (ha0 : Sl φ 1 pA0_0 pc0_0 p0.Classes.length (List.flatMap encI p0.Classes)) {r : Int} (hm : m_relay_CheckRules p0 = some r) : Gv Tryz.prog 11 [.agg #[.slice pA0_0 p0.Classes.length pc0_0, .int .i64 p0.Each, .int .i64 p0.Laps, .int .i64 p0.Spare, .int .i64 p0.Loop, .int .i64 p0.Unused]] w (RetS w [] φ (fun φ_ L_ v => v = .int .i64 r ∧ L_ = [])) := by
 unfold m_relay_CheckRules at hm
 refine Gv.of Tryz.func11 rfl Tryz.ntmps11 Tryz.results11 rfl ?_
 refine CK.seq ?_
 refine CK.reg (ks := []) (.fx 0 (.fl 1 (.nil)) .stop) rfl ?_
 refine OKS.box (cs := [.slice pA0_0 p0.Classes.length pc0_0, .int .i64 p0.Each, .int .i64 p0.Laps, .int .i64 p0.Spare, .int .i64 p0.Loop, .int .i64 p0.Unused]) rfl rfl rfl rfl rfl rfl (by rfl) hS ?_
 intro W1 b2 hS3
 have q := hS3.freeze (k := 0) rfl
 obtain ⟨φ5, le6, hC7, hS8⟩ := q
 replace hC7 := Cl.of hC7
 have hS9 : St ⟨w, [], φ⟩ φ5 [] W1 := hS8
 replace hC7 : Cl φ5 b2 0 [.slice pA0_0 p0.Classes.length pc0_0, .int .i64 p0.Each, .int .i64 p0.Laps, .int .i64 p0.Spare, .int .i64 p0.Loop, .int .i64 p0.Unused] := hC7
 refine OKS.ra rfl rfl rfl rfl rfl rfl ?_
 refine OKS.e ?_
 refine thenQ_n ?_
 refine CK.seq ?_
 refine CK.block ?_
 refine CK.seq ?_
 refine CK.reg (ks := []) (.fl 0 (.fl 1 (.fl 2 (.fx 3 (.fl 4 (.fl 5 (.nil))) .stop)))) rfl ?_
 refine OKS.r rfl rfl rfl rfl (fun _ => Runs.fa rfl rfl Tryz.runUnderlying24 rfl Tryz.sizeOf22) ?_
 refine OKS.m rfl rfl rfl rfl (hS9.ldC (f := 0) hC7 (v := .slice pA0_0 p0.Classes.length pc0_0) rfl rfl Tryz.isAgg22 rfl) rfl ?_
 refine OKS.r rfl rfl rfl rfl (fun _ => Runs.len rfl rfl Tryz.runUnderlying22) ?_
 have q := bnd hm
 obtain ⟨x10, h11, hm12⟩ := q
 refine OKS.callH 0 rfl rfl rfl rfl (Enters.mk rfl rfl Tryz.call54 (mapcons rfl (mapcons rfl (mapcons rfl mapnil))) rfl) hS9 (fun hs => w_relay_in (↑p0.Classes.length : Int) 1 4 W1 φ5 hs h11) (.inr rfl) ?_
 rintro φ13 L14 v15 W16 le17 hS18 ⟨rfl, rfl⟩
 have hS19 : St ⟨w, [], φ⟩ φ13 [] W16 := hS18
 refine OKS.r rfl rfl rfl rfl (fun _ => Runs.notT rfl rfl) ?_
 refine OKS.ra rfl rfl rfl rfl rfl rfl ?_
 refine OKS.e ?_
 refine thenQ_n ?_
 by_cases c20 : x10 = true
 ·have hm21 := hm12; rw [if_pos c20] at hm21; replace c20 := Hid.mk c20
  refine CK.condF (congrArg (fun b => Value.bool (!b)) c20.out) ?_
  refine CK.seq ?_
  refine CK.reg (ks := []) (.fl 0 (.fl 1 (.fx 2 (.fl 3 (.fl 4 (.fx 5 (.fl 6 (.fx 7 (.fl 8 (.fl 9 (.fl 10 (.nil)))) .stop)) .stop))) .stop))) rfl ?_
  refine OKS.r rfl rfl rfl rfl (fun _ => Runs.fa rfl rfl Tryz.runUnderlying24 rfl Tryz.sizeOf22) ?_
  have h22 := hC7.le le17
  refine OKS.m rfl rfl rfl rfl (hS19.ldC (f := 0) h22 (v := .slice pA0_0 p0.Classes.length pc0_0) rfl rfl Tryz.isAgg22 rfl) rfl ?_
  have h23 := ha0.le le6
  have h24 := h23.le le17
  have q := bnd hm21
  obtain ⟨x25, h26, hm27⟩ := q
  refine OKS.callH 0 rfl rfl rfl rfl (Enters.mk rfl rfl Tryz.call55 (mapcons rfl mapnil) rfl) hS19 (fun hs => w_relay_classed p0.Classes pA0_0 pc0_0 W16 φ13 hs h24 h26) (.inr rfl) ?_
  rintro φ28 L29 v30 W31 le32 hS33 ⟨rfl, rfl⟩
  have hS34 : St ⟨w, [], φ⟩ φ28 [] W31 := hS33
  refine OKS.r rfl rfl rfl rfl (fun _ => Runs.notT rfl rfl) ?_
  refine OKS.rm rfl rfl rfl rfl rfl rfl ?_
  by_cases c35 : x25 = true
  ·have hm36 := hm27; rw [if_pos c35] at hm36; replace c35 := Hid.mk c35
   have q := bnd hm36
   obtain ⟨x37, h38, hm39⟩ := q
   refine OKS.callH 0 rfl rfl rfl (wantedY rfl rfl (congrArg (fun b => Value.bool (!b)) c35.out)) (Enters.mk rfl rfl Tryz.call57 mapnil rfl) hS34 (fun hs => w_relay_limits W31 φ28 hs h38) (.inr rfl) ?_
   rintro φ40 L41 v42 W43 le44 hS45 ⟨A46, c47, c48, rfl, rfl, h50⟩
   have hS51 : St ⟨w, [], φ⟩ φ40 [.row A46 c47 118 3 c48] W43 := hS45
   refine OKS.r rfl rfl rfl (wantedY rfl rfl (congrArg (fun b => Value.bool (!b)) c35.out)) (fun _ => Runs.mkf rfl mapnil (mapcons rfl mapnil)) ?_
   have q := hS51.freezeRR (R := rl118) (k := 0) rfl h50 rfl (by decide)
   obtain ⟨φ52, le53, hs54, hS55⟩ := q
   have hS56 : St ⟨w, [], φ⟩ φ52 [] W43 := hS55
   have h57 := h22.le le32
   have h58 := h57.le le44
   have h59 := h58.le le53
   have h60 := h24.le le32
   have h61 := h60.le le44
   have h62 := h61.le le53
   have hF63 : FnOK Tryz.prog φ52 (.func (.func 58) #[] #[.pointer (some ⟨b2, 0, none⟩)]) ar121 rr121 (fun x => m_relay_CheckRules_1 x p0) := ⟨58, [], [.pointer (some ⟨b2, 0, none⟩)], rfl, Tryz.call58, fun φ1 w1 x y vs le hs ha hm => by obtain ⟨pv_0_0, rfl, hq0_0⟩ := ha; exact w_relay_CheckRules_1 x pv_0_0 p0 b2 pA0_0 pc0_0 w1 φ1 hs hq0_0 (h59.le le) (h62.le le) hm⟩
   have q := bnd hm39
   obtain ⟨x64, h65, hm66⟩ := q
   refine OKS.callH 0 rfl rfl rfl (wantedY rfl rfl (congrArg (fun b => Value.bool (!b)) c35.out)) (Enters.mk rfl rfl Tryz.call56 (mapcons rfl (mapcons rfl mapnil)) rfl) hS56 (fun hs => w_relay_each_relay_limit x37 A46 c47 (fun x => m_relay_CheckRules_1 x p0) (.func (.func 58) #[] #[.pointer (some ⟨b2, 0, none⟩)]) W43 φ52 hs hs54 hF63 h65) (.inr rfl) ?_
   rintro φ67 L68 v69 W70 le71 hS72 ⟨rfl, rfl⟩
   have hS73 : St ⟨w, [], φ⟩ φ67 [] W70 := hS72
   refine OKS.r rfl rfl rfl (wantedY rfl rfl (congrArg (fun b => Value.bool (!b)) c35.out)) (fun _ => Runs.notT rfl rfl) ?_
   refine OKS.r rfl rfl rfl rfl (fun _ => Runs.pickF rfl (congrArg (fun b => Value.bool (!b)) c35.out) rfl) ?_
   refine OKS.ra rfl rfl rfl rfl rfl rfl ?_
   refine OKS.e ?_
   refine thenQ_n ?_
   by_cases c74 : x64 = true
   ·have hm75 := hm66; rw [if_pos c74] at hm75; replace c74 := Hid.mk c74
    refine CK.condF (congrArg (fun b => Value.bool (!b)) c74.out) ?_
    refine CK.skip ?_
    refine blockQ_n ?_
    refine thenQ_n ?_
    refine CK.seq ?_
    refine CK.reg (ks := []) (.fl 0 (.nil)) rfl ?_
    refine OKS.ra rfl rfl rfl rfl rfl rfl ?_
    refine OKS.e ?_
    refine thenQ_n ?_
    refine CK.ret ?_
    cases hm75
    exact ⟨rfl, _, (res1 rfl), φ67, _, hS73, rfl, rfl⟩
   ·have hm76 := hm66; rw [if_neg c74] at hm76; replace c74 := Hid.mk c74
    refine CK.condT (congrArg (fun b => Value.bool (!b)) (Bool.eq_false_iff.2 c74.out)) ?_
    refine CK.seq ?_
    refine CK.reg (ks := []) (.fl 0 (.nil)) rfl ?_
    refine OKS.ra rfl rfl rfl rfl rfl rfl ?_
    refine OKS.e ?_
    refine thenQ_n ?_
    refine CK.ret ?_
    refine blockQ_r ?_
    refine thenQ_r ?_
    cases hm76
    exact ⟨rfl, _, (res1 rfl), φ67, _, hS73, rfl, rfl⟩
  ·have hm77 := hm27; rw [if_neg c35] at hm77; replace c35 := Hid.mk c35
   refine OKS.px rfl rfl rfl (wantedN rfl rfl (congrArg (fun b => Value.bool (!b)) (Bool.eq_false_iff.2 c35.out)) rfl) ?_
   refine OKS.p rfl rfl rfl (wantedN rfl rfl (congrArg (fun b => Value.bool (!b)) (Bool.eq_false_iff.2 c35.out)) rfl) ?_
   refine OKS.px rfl rfl rfl (wantedN rfl rfl (congrArg (fun b => Value.bool (!b)) (Bool.eq_false_iff.2 c35.out)) rfl) ?_
   refine OKS.p rfl rfl rfl (wantedN rfl rfl (congrArg (fun b => Value.bool (!b)) (Bool.eq_false_iff.2 c35.out)) rfl) ?_
   refine OKS.r rfl rfl rfl rfl (fun _ => Runs.pickT rfl (congrArg (fun b => Value.bool (!b)) (Bool.eq_false_iff.2 c35.out)) rfl) ?_
   refine OKS.ra rfl rfl rfl rfl rfl rfl ?_
   refine OKS.e ?_
   refine thenQ_n ?_
   refine CK.condT rfl ?_
   refine CK.seq ?_
   refine CK.reg (ks := []) (.fl 0 (.nil)) rfl ?_
   refine OKS.ra rfl rfl rfl rfl rfl rfl ?_
   refine OKS.e ?_
   refine thenQ_n ?_
   refine CK.ret ?_
   refine blockQ_r ?_
   refine thenQ_r ?_
   cases hm77
   exact ⟨rfl, _, (res1 rfl), φ28, _, hS34, rfl, rfl⟩
 ·have hm78 := hm12; rw [if_neg c20] at hm78; replace c20 := Hid.mk c20
  refine CK.condT (congrArg (fun b => Value.bool (!b)) (Bool.eq_false_iff.2 c20.out)) ?_
  refine CK.seq ?_
  refine CK.reg (ks := []) (.fl 0 (.nil)) rfl ?_
  refine OKS.ra rfl rfl rfl rfl rfl rfl ?_
  refine OKS.e ?_
  refine thenQ_n ?_
  refine CK.ret ?_
  refine blockQ_r ?_
  refine thenQ_r ?_
  cases hm78
  exact ⟨rfl, _, (res1 rfl), φ13, _, hS19, rfl, rfl⟩

set_option maxHeartbeats 4000000 in
theorem w_klisterref08_off (p0 : Int) (p1 : Int) (p2 : Int) (w : World) (φ : PHeap) (hS : St ⟨w, [], φ⟩ φ [] w)  {r : Bool} (hm : m_klisterref08_off p0 p1 p2 = some r) : Gv Tryz.prog 59 [.int .i64 p0, .int .i64 p1, .int .i64 p2] w (RetS w [] φ (fun φ_ L_ v => v = .bool r ∧ L_ = [])) := by
 unfold m_klisterref08_off at hm
 refine Gv.of Tryz.func59 rfl Tryz.ntmps59 Tryz.results59 rfl ?_
 refine CK.seq ?_
 refine CK.reg (ks := []) (.fl 0 (.nil)) rfl ?_
 refine OKS.ra rfl rfl rfl rfl rfl rfl ?_
 refine OKS.e ?_
 refine thenQ_n ?_
 refine CK.seq ?_
 refine CK.reg (ks := []) (.fl 0 (.fl 1 (.fl 2 (.fl 3 (.fl 4 (.fl 5 (.fl 6 (.fl 7 (.fl 8 (.nil)))))))))) rfl ?_
 refine OKS.rm rfl rfl rfl rfl rfl rfl ?_
 refine OKS.rm rfl rfl rfl rfl rfl rfl ?_
 refine OKS.r rfl rfl rfl rfl (fun _ => Runs.lss rfl rfl rfl) ?_
 refine OKS.rm rfl rfl rfl rfl rfl rfl ?_
 by_cases c1 : p0 < p1
 ·have hm2 := hm; rw [if_pos c1] at hm2; replace c1 := Hid.mk c1
  refine OKS.p rfl rfl rfl (wantedN rfl rfl (decT c1.out) rfl) ?_
  refine OKS.p rfl rfl rfl (wantedN rfl rfl (decT c1.out) rfl) ?_
  refine OKS.p rfl rfl rfl (wantedN rfl rfl (decT c1.out) rfl) ?_
  refine OKS.r rfl rfl rfl rfl (fun _ => Runs.pickT rfl (decT c1.out) rfl) ?_
  refine OKS.ra rfl rfl rfl rfl rfl rfl ?_
  refine OKS.e ?_
  refine thenQ_n ?_
  refine CK.ret ?_
  cases hm2
  exact ⟨rfl, _, (res1 rfl), φ, _, hS, rfl, rfl⟩
 ·have hm3 := hm; rw [if_neg c1] at hm3; replace c1 := Hid.mk c1
  refine OKS.rm rfl rfl rfl (wantedY rfl rfl (decF c1.out)) rfl rfl ?_
  refine OKS.rm rfl rfl rfl (wantedY rfl rfl (decF c1.out)) rfl rfl ?_
  refine OKS.r rfl rfl rfl (wantedY rfl rfl (decF c1.out)) (fun _ => Runs.gtr rfl rfl rfl) ?_
  refine OKS.r rfl rfl rfl rfl (fun _ => Runs.pickF rfl (decF c1.out) rfl) ?_
  refine OKS.ra rfl rfl rfl rfl rfl rfl ?_
  refine OKS.e ?_
  refine thenQ_n ?_
  refine CK.ret ?_
  cases hm3
  exact ⟨rfl, _, (res1 rfl), φ, _, hS, rfl, rfl⟩
end Go.Proofs.YtfdnbaahdjlapaaGreat
