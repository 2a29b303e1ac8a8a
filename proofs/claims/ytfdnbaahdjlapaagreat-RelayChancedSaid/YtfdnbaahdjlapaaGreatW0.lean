/- Walks, printed by a program: each function does what its model says. -/
import Derived.Test.YtfdnbaahdjlapaaGreatEnc
namespace Go.Proofs.YtfdnbaahdjlapaaGreat
open Go.KL
set_option maxHeartbeats 4000000 in
theorem w_klisterkit_Of (p0 : List Int) (pA0 : Option Addr) (pc0 : Nat) (w : World) (φ : PHeap) (hS : St ⟨w, [], φ⟩ φ [] w) (ha0 : Sl φ 1 pA0 pc0 p0.length (List.flatMap encB8 p0)) {r : T_klisterkit_Deck} (hm : m_klisterkit_Of p0 = some r) : Gv Tryz.prog 21 [.slice pA0 p0.length pc0] w (RetS w [] φ (fun φ_ L_ v => ∃ (b0 : Nat) (A0p0 : Option Addr) (c0p0 : Nat), v = .pointer (some ⟨b0, 0, none⟩) ∧ L_ = [.blk b0 126 [.slice A0p0 r.bytes.length c0p0, .int .i64 r.next, .int .u32 r.state]] ∧ Sl φ_ 1 A0p0 c0p0 r.bytes.length (List.flatMap encB8 r.bytes))) := by
 unfold m_klisterkit_Of at hm
 refine Gv.of Tryz.func21 rfl Tryz.ntmps21 Tryz.results21 rfl ?_
 refine CK.seq ?_
 refine CK.reg (ks := []) (.fl 0 (.nil)) rfl ?_
 refine OKS.ra rfl rfl rfl rfl rfl rfl ?_
 refine OKS.e ?_
 refine thenQ_n ?_
 refine CK.seq ?_
 refine CK.reg (ks := []) (.fl 0 (.fl 1 (.fx 2 (.fl 3 (.nil)) .stop))) rfl ?_
 refine OKS.rm rfl rfl rfl rfl rfl rfl ?_
 refine OKS.r rfl rfl rfl rfl (fun _ => Runs.build (pv := [(0, .slice pA0 p0.length pc0), (2, .int .u32 17)]) (z := [.slice none 0 0, .int .i64 0, .int .u32 0]) (cs := [.slice pA0 p0.length pc0, .int .i64 0, .int .u32 17]) rfl (mapcons2 rfl (mapcons2 rfl mapnil2)) Tryz.zeroValue126 places126 rfl rfl) ?_
 refine OKS.box (cs := [.slice pA0 p0.length pc0, .int .i64 0, .int .u32 17]) rfl rfl rfl rfl rfl rfl (by rfl) hS ?_
 intro W1 b2 hS3
 refine OKS.ra rfl rfl rfl rfl rfl rfl ?_
 refine OKS.e ?_
 refine thenQ_n ?_
 refine CK.ret ?_
 cases hm
 exact ⟨rfl, _, (res1 rfl), φ, _, hS3, b2, pA0, pc0, rfl, rfl, ha0⟩

set_option maxHeartbeats 4000000 in
theorem w_klisterkit_Deck_Draw (p0 : T_klisterkit_Deck) (pb0 : Nat) (pA0_0 : Option Addr) (pc0_0 : Nat) (p1 : Int) (w : World) (φ : PHeap) (hS : St ⟨w, [.blk pb0 126 [.slice pA0_0 p0.bytes.length pc0_0, .int .i64 p0.next, .int .u32 p0.state]], φ⟩ φ [.blk pb0 126 [.slice pA0_0 p0.bytes.length pc0_0, .int .i64 p0.next, .int .u32 p0.state]] w) (ha0 : Sl φ 1 pA0_0 pc0_0 p0.bytes.length (List.flatMap encB8 p0.bytes)) {r : Int × T_klisterkit_Deck} (hm : m_klisterkit_Deck_Draw p0 p1 = some r) : Gv Tryz.prog 22 [.pointer (some ⟨pb0, 0, none⟩), .int .i64 p1] w (RetS w [.blk pb0 126 [.slice pA0_0 p0.bytes.length pc0_0, .int .i64 p0.next, .int .u32 p0.state]] φ (fun φ_ L_ v => ∃ (Ao00 : Option Addr) (co00 : Nat), v = .int .i64 r.1 ∧ L_ = [.blk pb0 126 [.slice Ao00 r.2.bytes.length co00, .int .i64 r.2.next, .int .u32 r.2.state]] ∧ Sl φ_ 1 Ao00 co00 r.2.bytes.length (List.flatMap encB8 r.2.bytes))) := by
 unfold m_klisterkit_Deck_Draw at hm
 refine Gv.of Tryz.func22 rfl Tryz.ntmps22 Tryz.results22 rfl ?_
 refine CK.seq ?_
 refine CK.reg (ks := []) (.fl 0 (.nil)) rfl ?_
 refine OKS.ra rfl rfl rfl rfl rfl rfl ?_
 refine OKS.e ?_
 refine thenQ_n ?_
 refine CK.seq ?_
 refine CK.seq ?_
 refine CK.reg (ks := []) (.fl 0 (.fl 1 (.fl 2 (.fl 3 (.fl 4 (.fl 5 (.fl 6 (.fl 7 (.fl 8 (.fl 9 (.nil))))))))))) rfl ?_
 refine OKS.rm rfl rfl rfl rfl rfl rfl ?_
 refine OKS.r rfl rfl rfl rfl (fun _ => Runs.leq rfl rfl rfl) ?_
 refine OKS.rm rfl rfl rfl rfl rfl rfl ?_
 by_cases c2 : p1 ≤ 1
 ·have hm3 := hm; rw [if_pos c2] at hm3; replace c2 := Hid.mk c2
  refine OKS.p rfl rfl rfl (wantedN rfl rfl (decT c2.out) rfl) ?_
  refine OKS.p rfl rfl rfl (wantedN rfl rfl (decT c2.out) rfl) ?_
  refine OKS.p rfl rfl rfl (wantedN rfl rfl (decT c2.out) rfl) ?_
  refine OKS.p rfl rfl rfl (wantedN rfl rfl (decT c2.out) rfl) ?_
  refine OKS.p rfl rfl rfl (wantedN rfl rfl (decT c2.out) rfl) ?_
  refine OKS.p rfl rfl rfl (wantedN rfl rfl (decT c2.out) rfl) ?_
  refine OKS.r rfl rfl rfl rfl (fun _ => Runs.pickT rfl (decT c2.out) rfl) ?_
  refine OKS.e ?_
  refine thenQ_n ?_
  refine CK.condT rfl ?_
  refine CK.seq ?_
  refine CK.reg (ks := []) (.fl 0 (.nil)) rfl ?_
  refine OKS.ra rfl rfl rfl rfl rfl rfl ?_
  refine OKS.e ?_
  refine thenQ_n ?_
  refine CK.ret ?_
  refine thenQ_r ?_
  cases hm3
  exact ⟨rfl, _, (res1 rfl), φ, _, hS, pA0_0, pc0_0, rfl, rfl, ha0⟩
 ·have hm4 := hm; rw [if_neg c2] at hm4; replace c2 := Hid.mk c2
  refine OKS.rm rfl rfl rfl (wantedY rfl rfl (decF c2.out)) rfl rfl ?_
  refine OKS.r rfl rfl rfl (wantedY rfl rfl (decF c2.out)) (fun _ => Runs.nilp rfl rfl) ?_
  refine OKS.r rfl rfl rfl (wantedY rfl rfl (decF c2.out)) (fun _ => Runs.fa rfl rfl Tryz.runUnderlying126 rfl Tryz.sizeOf51) ?_
  refine OKS.m rfl rfl rfl (wantedY rfl rfl (decF c2.out)) (hS.ldB (j := 0) rfl rfl rfl Tryz.isAgg51 (v := .slice pA0_0 p0.bytes.length pc0_0) rfl) rfl ?_
  refine OKS.r rfl rfl rfl (wantedY rfl rfl (decF c2.out)) (fun _ => Runs.len rfl rfl Tryz.runUnderlying51) ?_
  refine OKS.r rfl rfl rfl (wantedY rfl rfl (decF c2.out)) (fun _ => Runs.eql rfl rfl rfl) ?_
  refine OKS.r rfl rfl rfl rfl (fun _ => Runs.pickF rfl (decF c2.out) rfl) ?_
  refine OKS.e ?_
  refine thenQ_n ?_
  by_cases c5 : (↑p0.bytes.length : Int) = 0
  ·have hm6 := hm4; rw [if_pos c5] at hm6; replace c5 := Hid.mk c5
   refine CK.condT (decT c5.out) ?_
   refine CK.seq ?_
   refine CK.reg (ks := []) (.fl 0 (.nil)) rfl ?_
   refine OKS.ra rfl rfl rfl rfl rfl rfl ?_
   refine OKS.e ?_
   refine thenQ_n ?_
   refine CK.ret ?_
   refine thenQ_r ?_
   cases hm6
   exact ⟨rfl, _, (res1 rfl), φ, _, hS, pA0_0, pc0_0, rfl, rfl, ha0⟩
  ·have hm7 := hm4; rw [if_neg c5] at hm7; replace c5 := Hid.mk c5
   refine CK.condF (decF c5.out) ?_
   refine CK.skip ?_
   refine thenQ_n ?_
   refine CK.seq ?_
   refine CK.anyOrd Tryz.mixed [3, 3, 3, 1, 3, 3, 3, 1, 3, 3, 3, 1, 3, 3, 3, 1, 3, 3, 3, 3, 1, 3, 3, 3, 1, 3, 3, 3, 3, 3] (.fl 0 (.fl 1 (.fl 2 (.fl 3 (.fl 4 (.fl 5 (.fl 6 (.fl 7 (.fl 8 (.fl 9 (.fl 10 (.fl 11 (.fl 12 (.fl 13 (.fl 14 (.fl 15 (.fl 16 (.fl 17 (.fl 18 (.fl 19 (.fl 20 (.fl 21 (.fl 22 (.fl 23 (.fl 24 (.fl 25 (.fl 26 (.fl 27 (.fl 28 (.fl 29 (.nil))))))))))))))))))))))))))))))) (by kernel_rfl) ?_
   have hS8 := hS.drew
   generalize hw_W9 : ({ w with drawn := w.drawn + 1 } : World) = W9 at hS8 ⊢
   refine OKS.rm rfl rfl rfl rfl rfl rfl ?_
   refine OKS.r rfl rfl rfl rfl (fun _ => Runs.nilp rfl rfl) ?_
   refine OKS.r rfl rfl rfl rfl (fun _ => Runs.fa rfl rfl Tryz.runUnderlying126 rfl Tryz.sizeOf51) ?_
   refine OKS.m rfl rfl rfl rfl (hS8.ldB (j := 0) rfl rfl rfl Tryz.isAgg51 (v := .slice pA0_0 p0.bytes.length pc0_0) rfl) rfl ?_
   refine OKS.rm rfl rfl rfl rfl rfl rfl ?_
   refine OKS.r rfl rfl rfl rfl (fun _ => Runs.nilp rfl rfl) ?_
   refine OKS.r rfl rfl rfl rfl (fun _ => Runs.fa rfl rfl Tryz.runUnderlying126 rfl Tryz.sizeOf3) ?_
   refine OKS.m rfl rfl rfl rfl (hS8.ldB (j := 0) rfl rfl rfl Tryz.isAgg3 (v := .int .i64 p0.next) rfl) rfl ?_
   refine OKS.rm rfl rfl rfl rfl rfl rfl ?_
   refine OKS.r rfl rfl rfl rfl (fun _ => Runs.nilp rfl rfl) ?_
   refine OKS.r rfl rfl rfl rfl (fun _ => Runs.fa rfl rfl Tryz.runUnderlying126 rfl Tryz.sizeOf51) ?_
   refine OKS.m rfl rfl rfl rfl (hS8.ldB (j := 0) rfl rfl rfl Tryz.isAgg51 (v := .slice pA0_0 p0.bytes.length pc0_0) rfl) rfl ?_
   refine OKS.r rfl rfl rfl rfl (fun _ => Runs.len rfl rfl Tryz.runUnderlying51) ?_
   have q := bnd hm7
   obtain ⟨x10, h11, hm12⟩ := q
   refine OKS.r rfl rfl rfl rfl (fun _ => Runs.rem rfl rfl rfl h11) ?_
   have q := bnd hm12
   obtain ⟨x13, h14, hm15⟩ := q
   have q := ha0.el (fun _ => rfl) (idx_get h14)
   obtain ⟨b16, off17, hA18, hC19⟩ := q
   refine OKS.r rfl rfl rfl rfl (fun _ => Runs.iaI rfl rfl hA18 rfl Tryz.runUnderlying51 Tryz.sizeOf5 (idx_lo h14) (idx_hi h14)) ?_
   refine OKS.m rfl rfl rfl rfl (hS8.ldC (f := 0) hC19 (v := .int .u8 x13) rfl rfl Tryz.isAgg5 rfl) rfl ?_
   refine OKS.r rfl rfl rfl rfl (fun _ => Runs.cvu rfl rfl Tryz.runUnderlying5 Tryz.runUnderlying124 rfl rfl) ?_
   refine OKS.rm rfl rfl rfl rfl rfl rfl ?_
   refine OKS.r rfl rfl rfl rfl (fun _ => Runs.nilp rfl rfl) ?_
   refine OKS.r rfl rfl rfl rfl (fun _ => Runs.fa rfl rfl Tryz.runUnderlying126 rfl Tryz.sizeOf3) ?_
   refine OKS.m rfl rfl rfl rfl (hS8.ldB (j := 0) rfl rfl rfl Tryz.isAgg3 (v := .int .i64 p0.next) rfl) rfl ?_
   refine OKS.rm rfl rfl rfl rfl rfl rfl ?_
   refine OKS.r rfl rfl rfl rfl (fun _ => Runs.nilp rfl rfl) ?_
   refine OKS.r rfl rfl rfl rfl (fun _ => Runs.fa rfl rfl Tryz.runUnderlying126 rfl Tryz.sizeOf51) ?_
   refine OKS.m rfl rfl rfl rfl (hS8.ldB (j := 0) rfl rfl rfl Tryz.isAgg51 (v := .slice pA0_0 p0.bytes.length pc0_0) rfl) rfl ?_
   refine OKS.r rfl rfl rfl rfl (fun _ => Runs.len rfl rfl Tryz.runUnderlying51) ?_
   have q := bnd hm15
   obtain ⟨x20, h21, hm22⟩ := q
   refine OKS.r rfl rfl rfl rfl (fun _ => Runs.quo rfl rfl rfl h21) ?_
   refine OKS.r rfl rfl rfl rfl (fun _ => Runs.cvu rfl rfl Tryz.runUnderlying3 Tryz.runUnderlying124 rfl rfl) ?_
   refine OKS.ra rfl rfl rfl rfl rfl rfl ?_
   refine OKS.ra rfl rfl rfl rfl rfl rfl ?_
   refine OKS.e ?_
   refine thenQ_n ?_
   refine CK.seq ?_
   refine CK.fresh fun σ23 hσ24 => ?_
   have f25 : σ23 0 = .pointer (some ⟨pb0, 0, none⟩) := (hσ24 0).trans rfl
   have f26 : σ23 1 = .int .i64 p1 := (hσ24 1).trans rfl
   have f27 : σ23 5 = .int .u32 (wu32 x13) := (hσ24 5).trans rfl
   have f28 : σ23 6 = .int .u32 (wu32 x20) := (hσ24 6).trans rfl
   clear hσ24
   refine CK.reg (ks := []) (.fl 0 (.fl 1 (.fl 2 (.fl 3 (.fl 4 (.fl 5 (.fl 6 (.fx 7 (.nil) .stop)))))))) rfl ?_
   refine OKS.rm rfl rfl rfl rfl rfl f25 ?_
   refine OKS.r rfl rfl rfl rfl (fun _ => Runs.nilp rfl rfl) ?_
   refine OKS.r rfl rfl rfl rfl (fun _ => Runs.fa rfl rfl Tryz.runUnderlying126 rfl Tryz.sizeOf3) ?_
   refine OKS.m rfl rfl rfl rfl (hS8.ldB (j := 0) rfl rfl rfl Tryz.isAgg3 (v := .int .i64 p0.next) rfl) rfl ?_
   refine OKS.r rfl rfl rfl rfl (fun _ => Runs.addw rfl rfl rfl) ?_
   refine OKS.r rfl rfl rfl rfl (fun _ => Runs.nilp rfl rfl) ?_
   refine OKS.r rfl rfl rfl rfl (fun _ => Runs.fa rfl rfl Tryz.runUnderlying126 rfl Tryz.sizeOf3) ?_
   refine OKS.st (j := 0) (vs := [.int .i64 (w64 (p0.next + 1))]) rfl rfl rfl rfl hS8 rfl rfl rfl rfl Tryz.sizeOf3 (Nat.le_of_ble_eq_true rfl) rfl rfl rfl ?_
   intro W29 hS30
   have hS31 : St ⟨w, [.blk pb0 126 [.slice pA0_0 p0.bytes.length pc0_0, .int .i64 p0.next, .int .u32 p0.state]], φ⟩ φ [.blk pb0 126 [.slice pA0_0 p0.bytes.length pc0_0, .int .i64 (w64 (p0.next + 1)), .int .u32 p0.state]] W29 := hS30
   refine OKS.e ?_
   refine thenQ_n ?_
   refine CK.seq ?_
   refine CK.reg (ks := []) (.fl 0 (.fl 1 (.fl 2 (.fl 3 (.fl 4 (.fl 5 (.fl 6 (.fl 7 (.fl 8 (.fl 9 (.fl 10 (.fl 11 (.fl 12 (.fl 13 (.fl 14 (.fx 15 (.nil) .stop)))))))))))))))) rfl ?_
   refine OKS.rm rfl rfl rfl rfl rfl f25 ?_
   refine OKS.rm rfl rfl rfl rfl rfl f25 ?_
   refine OKS.r rfl rfl rfl rfl (fun _ => Runs.nilp rfl rfl) ?_
   refine OKS.r rfl rfl rfl rfl (fun _ => Runs.fa rfl rfl Tryz.runUnderlying126 rfl Tryz.sizeOf124) ?_
   refine OKS.m rfl rfl rfl rfl (hS31.ldB (j := 0) rfl rfl rfl Tryz.isAgg124 (v := .int .u32 p0.state) rfl) rfl ?_
   refine OKS.r rfl rfl rfl rfl (fun _ => Runs.mulu rfl rfl rfl) ?_
   refine OKS.rm rfl rfl rfl rfl rfl f27 ?_
   refine OKS.r rfl rfl rfl rfl (fun _ => Runs.addu rfl rfl rfl) ?_
   refine OKS.rm rfl rfl rfl rfl rfl f28 ?_
   refine OKS.r rfl rfl rfl rfl (fun _ => Runs.mulu rfl rfl rfl) ?_
   refine OKS.r rfl rfl rfl rfl (fun _ => Runs.addu rfl rfl rfl) ?_
   refine OKS.r rfl rfl rfl rfl (fun _ => Runs.addu rfl rfl rfl) ?_
   have q := bnd hm22
   obtain ⟨x32, h33, hm34⟩ := q
   refine OKS.r rfl rfl rfl rfl (fun _ => Runs.rem rfl rfl rfl h33) ?_
   refine OKS.r rfl rfl rfl rfl (fun _ => Runs.nilp rfl rfl) ?_
   refine OKS.r rfl rfl rfl rfl (fun _ => Runs.fa rfl rfl Tryz.runUnderlying126 rfl Tryz.sizeOf124) ?_
   refine OKS.st (j := 0) (vs := [.int .u32 x32]) rfl rfl rfl rfl hS31 rfl rfl rfl rfl Tryz.sizeOf124 (Nat.le_of_ble_eq_true rfl) rfl rfl rfl ?_
   intro W35 hS36
   have hS37 : St ⟨w, [.blk pb0 126 [.slice pA0_0 p0.bytes.length pc0_0, .int .i64 p0.next, .int .u32 p0.state]], φ⟩ φ [.blk pb0 126 [.slice pA0_0 p0.bytes.length pc0_0, .int .i64 (w64 (p0.next + 1)), .int .u32 x32]] W35 := hS36
   refine OKS.e ?_
   refine thenQ_n ?_
   refine CK.seq ?_
   refine CK.seq ?_
   refine CK.reg (ks := []) (.fl 0 (.fl 1 (.fl 2 (.fl 3 (.fl 4 (.fl 5 (.nil))))))) rfl ?_
   refine OKS.rm rfl rfl rfl rfl rfl f28 ?_
   refine OKS.r rfl rfl rfl rfl (fun _ => Runs.eql rfl rfl rfl) ?_
   refine OKS.rm rfl rfl rfl rfl rfl rfl ?_
   by_cases c38 : (wu32 x20) = 0
   ·have hm39 := hm34; rw [if_pos c38] at hm39; replace c38 := Hid.mk c38
    refine OKS.rm rfl rfl rfl (wantedY rfl rfl (decT c38.out)) rfl f26 ?_
    refine OKS.r rfl rfl rfl (wantedY rfl rfl (decT c38.out)) (fun _ => Runs.leq rfl rfl rfl) ?_
    refine OKS.r rfl rfl rfl rfl (fun _ => Runs.pickT rfl (decT c38.out) rfl) ?_
    refine OKS.e ?_
    refine thenQ_n ?_
    by_cases c40 : p1 ≤ 256
    ·have hm41 := hm39; rw [if_pos c40] at hm41; replace c40 := Hid.mk c40
     refine CK.condT (decT c40.out) ?_
     refine CK.seq ?_
     refine CK.reg (ks := []) (.fl 0 (.fl 1 (.fl 2 (.fl 3 (.fl 4 (.nil)))))) rfl ?_
     refine OKS.rm rfl rfl rfl rfl rfl f27 ?_
     refine OKS.r rfl rfl rfl rfl (fun _ => Runs.cvw rfl rfl Tryz.runUnderlying124 Tryz.runUnderlying3 rfl rfl) ?_
     refine OKS.rm rfl rfl rfl rfl rfl f26 ?_
     have q := bnd hm41
     obtain ⟨x42, h43, hm44⟩ := q
     refine OKS.r rfl rfl rfl rfl (fun _ => Runs.rem rfl rfl rfl h43) ?_
     refine OKS.ra rfl rfl rfl rfl rfl rfl ?_
     refine OKS.e ?_
     refine thenQ_n ?_
     refine CK.ret ?_
     refine thenQ_r ?_
     cases hm44
     exact ⟨rfl, _, (res1 rfl), φ, _, hS37, pA0_0, pc0_0, rfl, rfl, ha0⟩
    ·have hm45 := hm39; rw [if_neg c40] at hm45; replace c40 := Hid.mk c40
     refine CK.condF (decF c40.out) ?_
     refine CK.skip ?_
     refine thenQ_n ?_
     refine CK.seq ?_
     refine CK.reg (ks := []) (.fl 0 (.fl 1 (.fl 2 (.fl 3 (.fl 4 (.fl 5 (.fl 6 (.fl 7 (.fl 8 (.fl 9 (.fl 10 (.nil)))))))))))) rfl ?_
     refine OKS.rm rfl rfl rfl rfl rfl f25 ?_
     refine OKS.r rfl rfl rfl rfl (fun _ => Runs.nilp rfl rfl) ?_
     refine OKS.r rfl rfl rfl rfl (fun _ => Runs.fa rfl rfl Tryz.runUnderlying126 rfl Tryz.sizeOf124) ?_
     refine OKS.m rfl rfl rfl rfl (hS37.ldB (j := 0) rfl rfl rfl Tryz.isAgg124 (v := .int .u32 x32) rfl) rfl ?_
     refine OKS.r rfl rfl rfl rfl (fun _ => Runs.mulu rfl rfl rfl) ?_
     refine OKS.rm rfl rfl rfl rfl rfl f27 ?_
     refine OKS.r rfl rfl rfl rfl (fun _ => Runs.addu rfl rfl rfl) ?_
     refine OKS.r rfl rfl rfl rfl (fun _ => Runs.cvw rfl rfl Tryz.runUnderlying124 Tryz.runUnderlying3 rfl rfl) ?_
     refine OKS.rm rfl rfl rfl rfl rfl f26 ?_
     have q := bnd hm45
     obtain ⟨x46, h47, hm48⟩ := q
     refine OKS.r rfl rfl rfl rfl (fun _ => Runs.rem rfl rfl rfl h47) ?_
     refine OKS.ra rfl rfl rfl rfl rfl rfl ?_
     refine OKS.e ?_
     refine thenQ_n ?_
     refine CK.ret ?_
     cases hm48
     exact ⟨rfl, _, (res1 rfl), φ, _, hS37, pA0_0, pc0_0, rfl, rfl, ha0⟩
   ·have hm49 := hm34; rw [if_neg c38] at hm49; replace c38 := Hid.mk c38
    refine OKS.p rfl rfl rfl (wantedN rfl rfl (decF c38.out) rfl) ?_
    refine OKS.p rfl rfl rfl (wantedN rfl rfl (decF c38.out) rfl) ?_
    refine OKS.r rfl rfl rfl rfl (fun _ => Runs.pickF rfl (decF c38.out) rfl) ?_
    refine OKS.e ?_
    refine thenQ_n ?_
    refine CK.condF rfl ?_
    refine CK.skip ?_
    refine thenQ_n ?_
    refine CK.seq ?_
    refine CK.reg (ks := []) (.fl 0 (.fl 1 (.fl 2 (.fl 3 (.fl 4 (.fl 5 (.fl 6 (.fl 7 (.fl 8 (.fl 9 (.fl 10 (.nil)))))))))))) rfl ?_
    refine OKS.rm rfl rfl rfl rfl rfl f25 ?_
    refine OKS.r rfl rfl rfl rfl (fun _ => Runs.nilp rfl rfl) ?_
    refine OKS.r rfl rfl rfl rfl (fun _ => Runs.fa rfl rfl Tryz.runUnderlying126 rfl Tryz.sizeOf124) ?_
    refine OKS.m rfl rfl rfl rfl (hS37.ldB (j := 0) rfl rfl rfl Tryz.isAgg124 (v := .int .u32 x32) rfl) rfl ?_
    refine OKS.r rfl rfl rfl rfl (fun _ => Runs.mulu rfl rfl rfl) ?_
    refine OKS.rm rfl rfl rfl rfl rfl f27 ?_
    refine OKS.r rfl rfl rfl rfl (fun _ => Runs.addu rfl rfl rfl) ?_
    refine OKS.r rfl rfl rfl rfl (fun _ => Runs.cvw rfl rfl Tryz.runUnderlying124 Tryz.runUnderlying3 rfl rfl) ?_
    refine OKS.rm rfl rfl rfl rfl rfl f26 ?_
    have q := bnd hm49
    obtain ⟨x50, h51, hm52⟩ := q
    refine OKS.r rfl rfl rfl rfl (fun _ => Runs.rem rfl rfl rfl h51) ?_
    refine OKS.ra rfl rfl rfl rfl rfl rfl ?_
    refine OKS.e ?_
    refine thenQ_n ?_
    refine CK.ret ?_
    cases hm52
    exact ⟨rfl, _, (res1 rfl), φ, _, hS37, pA0_0, pc0_0, rfl, rfl, ha0⟩

set_option maxHeartbeats 4000000 in
theorem w_relay_each_api_Span_1 (p0 : T_api_Span) (p1 : (T_api_Span → Option Bool)) (pb1 : Nat) (pv1 : Value) (w : World) (φ : PHeap) (hS : St ⟨w, [], φ⟩ φ [] w) (ha0 : Cl φ pb1 0 [pv1]) (ha1 : FnOK Tryz.prog φ pv1 ar123 rr123 p1) {r : Bool} (hm : m_relay_each_api_Span_1 p0 p1 = some r) : Gv Tryz.prog 113 [.agg #[.int .i64 p0.Lo, .int .i64 p0.Hi], .pointer (some ⟨pb1, 0, none⟩)] w (RetS w [] φ (fun φ_ L_ v => v = .bool r ∧ L_ = [])) := by
 unfold m_relay_each_api_Span_1 at hm
 refine Gv.of Tryz.func113 rfl Tryz.ntmps113 Tryz.results113 rfl ?_
 refine CK.seq ?_
 refine CK.reg (ks := []) (.fx 0 (.fl 1 (.nil)) .stop) rfl ?_
 refine OKS.box (cs := [.int .i64 p0.Lo, .int .i64 p0.Hi]) rfl rfl rfl rfl rfl rfl (by rfl) hS ?_
 intro W1 b2 hS3
 refine OKS.ra rfl rfl rfl rfl rfl rfl ?_
 refine OKS.e ?_
 refine thenQ_n ?_
 refine CK.seq ?_
 refine CK.reg (ks := []) (.fl 0 (.fl 1 (.fx 2 (.fl 3 (.fl 4 (.nil))) .stop))) rfl ?_
 refine OKS.m rfl rfl rfl rfl (hS3.ldC (f := 0) ha0 (v := pv1) rfl rfl Tryz.isAgg123 rfl) rfl ?_
 refine OKS.m rfl rfl rfl rfl (hS3.ldBA (j := 0) rfl rfl rfl Tryz.isAgg46 Tryz.sizeOf46 (vs := [.int .i64 p0.Lo, .int .i64 p0.Hi]) rfl rfl) rfl ?_
 have q := bnd hm
 obtain ⟨x5, h6, hm7⟩ := q
 refine OKS.callV (a := p0) rfl rfl rfl rfl rfl rfl (mapcons rfl mapnil) hS3 ha1 rfl h6 ?_
 rintro φ8 L9 v10 W11 le12 hS13 ⟨rfl, rfl⟩
 have hS14 : St ⟨w, [], φ⟩ φ8 [.blk b2 46 [.int .i64 p0.Lo, .int .i64 p0.Hi]] W11 := hS13
 refine OKS.r rfl rfl rfl rfl (fun _ => Runs.notT rfl rfl) ?_
 refine OKS.ra rfl rfl rfl rfl rfl rfl ?_
 refine OKS.e ?_
 refine thenQ_n ?_
 refine CK.ret ?_
 cases hm7
 exact ⟨rfl, _, (res1 rfl), φ8, _, (hS14.pick [] _ (by decide) rfl), rfl, rfl⟩

set_option maxHeartbeats 4000000 in
theorem w_slices_IndexFunc_api_Span_api_Span (p0 : List T_api_Span) (pA0 : Option Addr) (pc0 : Nat) (p1 : (T_api_Span → Option Bool)) (pv1 : Value) (w : World) (φ : PHeap) (hS : St ⟨w, [], φ⟩ φ [] w) (ha0 : Sl φ 2 pA0 pc0 p0.length (List.flatMap encT_api_Span p0)) (ha1 : FnOK Tryz.prog φ pv1 ar123 rr123 p1) {r : Int} (hm : m_slices_IndexFunc_api_Span_api_Span p0 p1 = some r) : Gv Tryz.prog 153 [.slice pA0 p0.length pc0, pv1] w (RetS w [] φ (fun φ_ L_ v => v = .int .i64 r ∧ L_ = [])) := by
 unfold m_slices_IndexFunc_api_Span_api_Span at hm
 refine Gv.of Tryz.func153 rfl Tryz.ntmps153 Tryz.results153 rfl ?_
 refine CK.seq ?_
 refine CK.reg (ks := []) (.fl 0 (.nil)) rfl ?_
 refine OKS.ra rfl rfl rfl rfl rfl rfl ?_
 refine OKS.e ?_
 refine thenQ_n ?_
 refine CK.seq ?_
 refine CK.seq ?_
 refine CK.reg (ks := []) (.fl 0 (.fl 1 (.fl 2 (.nil)))) rfl ?_
 refine OKS.rm rfl rfl rfl rfl rfl rfl ?_
 refine OKS.r rfl rfl rfl rfl (fun _ => Runs.len rfl rfl Tryz.runUnderlying43) ?_
 refine OKS.rm rfl rfl rfl rfl rfl rfl ?_
 refine OKS.e ?_
 refine thenQ_n ?_
 refine CK.block ?_
 have q := jn_some hm
 obtain ⟨r3, hX4⟩ := q
 have q := forR_le hX4
 obtain ⟨hle5, hf6⟩ := q
 replace hle5 := Hid.mk hle5
 refine CK.forN (fun k2 _ σ_ w_ => ∃ (φ_ : PHeap), σ_ 8 = .int .i64 (↑k2 : Int) ∧ σ_ 0 = .slice pA0 p0.length pc0 ∧ σ_ 1 = pv1 ∧ σ_ 7 = .int .i64 (↑p0.length : Int) ∧ PHeap.Le φ φ_ ∧ St ⟨w, [], φ⟩ φ_ [] w_) hf6 ?_ ?_ ?_
 ·exact ⟨φ, rfl, rfl, rfl, rfl, (PHeap.Le.refl _), hS⟩
 ·rintro k2 ⟨⟩ xx9 σ7 W8 hk12 ⟨φ14, fi13, f17, f18, f19, le15, hS16⟩ hx10 hb11
  try dsimp only at hx10
  have c20 : Hid ((↑k2 : Int) < (↑p0.length : Int)) := Hid.mk (lp_lt0 hk12)
  replace hk12 := Hid.mk hk12
  have hi21 : Hid (w64 ((↑k2 : Int) + 1) = (↑(k2 + 1) : Int)) := Hid.mk (by have h1 := hle5.out; have h2 := c20.out; rw [w64_in] <;> omega)
  refine CK.seq ?_
  refine CK.reg (ks := []) (.fl 0 (.nil)) rfl ?_
  refine OKS.r rfl rfl rfl rfl (fun _ => Runs.lss rfl fi13 f19) ?_
  refine OKS.e ?_
  refine thenQ_n ?_
  refine CK.seq ?_
  refine CK.condT (decT c20.out) ?_
  refine CK.skip ?_
  refine thenQ_n ?_
  refine CK.seq ?_
  refine CK.block ?_
  refine CK.seq ?_
  refine CK.reg (ks := []) (.fl 0 (.fl 1 (.nil))) rfl ?_
  refine OKS.rm rfl rfl rfl rfl rfl fi13 ?_
  refine OKS.ra rfl rfl rfl rfl rfl rfl ?_
  refine OKS.e ?_
  refine thenQ_n ?_
  refine CK.seq ?_
  refine CK.reg (ks := []) (.fl 0 (.fl 1 (.fl 2 (.fl 3 (.fl 4 (.fx 5 (.nil) .stop)))))) rfl ?_
  refine OKS.rm rfl rfl rfl rfl rfl f18 ?_
  refine OKS.rm rfl rfl rfl rfl rfl f17 ?_
  refine OKS.rm rfl rfl rfl rfl rfl rfl ?_
  have q := bnd hx10
  obtain ⟨x22, h23, hm24⟩ := q
  have h25 := ha0.le le15
  have q := h25.el (fun _ => rfl) (idx_get h23)
  obtain ⟨b26, off27, hA28, hC29⟩ := q
  refine OKS.r rfl rfl rfl rfl (fun _ => Runs.iaN rfl rfl hA28 rfl Tryz.runUnderlying43 Tryz.sizeOf46 (idx_lt h23)) ?_
  refine OKS.m rfl rfl rfl rfl (hS16.ldCA (f := 0) hC29 rfl rfl Tryz.isAgg46 Tryz.sizeOf46 (us := [.int .i64 x22.Lo, .int .i64 x22.Hi]) rfl rfl) rfl ?_
  have q := bnd hm24
  obtain ⟨x30, h31, hm32⟩ := q
  have h39 := ha1.le le15
  refine OKS.callV (a := x22) rfl rfl rfl rfl rfl rfl (mapcons rfl mapnil) hS16 h39 rfl h31 ?_
  rintro φ33 L34 v35 W36 le37 hS38 ⟨rfl, rfl⟩
  have hS40 : St ⟨w, [], φ⟩ φ33 [] W36 := hS38
  refine OKS.e ?_
  refine thenQ_n ?_
  by_cases c41 : x30 = true
  ·have hm42 := hm32; rw [if_pos c41] at hm42; replace c41 := Hid.mk c41
   refine CK.condT (congrArg Value.bool c41.out) ?_
   refine CK.seq ?_
   refine CK.reg (ks := []) (.fl 0 (.fl 1 (.nil))) rfl ?_
   refine OKS.rm rfl rfl rfl rfl rfl rfl ?_
   refine OKS.ra rfl rfl rfl rfl rfl rfl ?_
   refine OKS.e ?_
   refine thenQ_n ?_
   refine CK.ret ?_
   refine blockQ_r ?_
   refine thenQ_r ?_
   have q := esc_spec hm42
   obtain ⟨v43, hm44, e45⟩ := q
   obtain rfl := jn_inr hm hX4 (hb11 v43 e45)
   refine thenQ_r ?_
   refine blockQ_r ?_
   refine thenQ_r ?_
   cases hm44
   exact ⟨rfl, _, (res1 rfl), φ33, _, hS40, rfl, rfl⟩
  ·have hm46 := hm32; rw [if_neg c41] at hm46; replace c41 := Hid.mk c41
   refine CK.condF (congrArg Value.bool (Bool.eq_false_iff.2 c41.out)) ?_
   refine CK.skip ?_
   refine blockQ_n ?_
   refine thenQ_n ?_
   refine CK.reg (ks := []) (.fl 0 (.fl 1 (.nil))) rfl ?_
   refine OKS.r rfl rfl rfl rfl (fun _ => Runs.to (Runs.addw rfl fi13 rfl) (congrArg (Value.int .i64) hi21.out)) ?_
   refine OKS.rm rfl rfl rfl rfl rfl rfl ?_
   refine OKS.e ?_
   obtain rfl := Option.some.inj hm46
   exact thenQ_n ⟨rfl, _, rfl, ⟨φ33, rfl, f17, f18, f19, (le15.trans le37), hS40⟩⟩
 ·rintro ⟨⟩ σ47 W48 ⟨φ51, fi50, f54, f55, f56, le52, hS53⟩ hb49
  have hm57 := jn_inl hm hX4 hb49
  try dsimp only at hm57
  have c58 : Hid (¬ ((↑(((↑p0.length : Int) : Int) - 0).toNat : Int) < (↑p0.length : Int))) := Hid.mk (lp_end0)
  refine CK.seq ?_
  refine CK.reg (ks := []) (.fl 0 (.nil)) rfl ?_
  refine OKS.r rfl rfl rfl rfl (fun _ => Runs.lss rfl fi50 f56) ?_
  refine OKS.e ?_
  refine thenQ_n ?_
  refine CK.seq ?_
  refine CK.condF (decF c58.out) ?_
  refine CK.exit ?_
  refine thenQ_e ?_
  refine thenQ_e ?_
  refine blockQ_h ?_
  refine thenQ_n ?_
  refine CK.seq ?_
  refine CK.reg (ks := []) (.fl 0 (.nil)) rfl ?_
  refine OKS.ra rfl rfl rfl rfl rfl rfl ?_
  refine OKS.e ?_
  refine thenQ_n ?_
  refine CK.ret ?_
  cases hm57
  exact ⟨rfl, _, (res1 rfl), φ51, _, hS53, rfl, rfl⟩

set_option maxHeartbeats 4000000 in
theorem w_slices_ContainsFunc_api_Span_api_Span (p0 : List T_api_Span) (pA0 : Option Addr) (pc0 : Nat) (p1 : (T_api_Span → Option Bool)) (pv1 : Value) (w : World) (φ : PHeap) (hS : St ⟨w, [], φ⟩ φ [] w) (ha0 : Sl φ 2 pA0 pc0 p0.length (List.flatMap encT_api_Span p0)) (ha1 : FnOK Tryz.prog φ pv1 ar123 rr123 p1) {r : Bool} (hm : m_slices_ContainsFunc_api_Span_api_Span p0 p1 = some r) : Gv Tryz.prog 112 [.slice pA0 p0.length pc0, pv1] w (RetS w [] φ (fun φ_ L_ v => v = .bool r ∧ L_ = [])) := by
 unfold m_slices_ContainsFunc_api_Span_api_Span at hm
 refine Gv.of Tryz.func112 rfl Tryz.ntmps112 Tryz.results112 rfl ?_
 refine CK.seq ?_
 refine CK.reg (ks := []) (.fl 0 (.nil)) rfl ?_
 refine OKS.ra rfl rfl rfl rfl rfl rfl ?_
 refine OKS.e ?_
 refine thenQ_n ?_
 refine CK.seq ?_
 refine CK.reg (ks := []) (.fl 0 (.fl 1 (.fx 2 (.fl 3 (.fl 4 (.nil))) .stop))) rfl ?_
 refine OKS.rm rfl rfl rfl rfl rfl rfl ?_
 refine OKS.rm rfl rfl rfl rfl rfl rfl ?_
 have q := bnd hm
 obtain ⟨x1, h2, hm3⟩ := q
 refine OKS.callH 0 rfl rfl rfl rfl (Enters.mk rfl rfl Tryz.call153 (mapcons rfl (mapcons rfl mapnil)) rfl) hS (fun hs => w_slices_IndexFunc_api_Span_api_Span p0 pA0 pc0 p1 pv1 w φ hs ha0 ha1 h2) (.inr rfl) ?_
 rintro φ4 L5 v6 W7 le8 hS9 ⟨rfl, rfl⟩
 have hS10 : St ⟨w, [], φ⟩ φ4 [] W7 := hS9
 refine OKS.r rfl rfl rfl rfl (fun _ => Runs.geq rfl rfl rfl) ?_
 refine OKS.ra rfl rfl rfl rfl rfl rfl ?_
 refine OKS.e ?_
 refine thenQ_n ?_
 refine CK.ret ?_
 cases hm3
 exact ⟨rfl, _, (res1 rfl), φ4, _, hS10, rfl, rfl⟩

set_option maxHeartbeats 4000000 in
theorem w_relay_each_api_Span (p0 : List T_api_Span) (pA0 : Option Addr) (pc0 : Nat) (p1 : (T_api_Span → Option Bool)) (pv1 : Value) (w : World) (φ : PHeap) (hS : St ⟨w, [], φ⟩ φ [] w) (ha0 : Sl φ 2 pA0 pc0 p0.length (List.flatMap encT_api_Span p0)) (ha1 : FnOK Tryz.prog φ pv1 ar123 rr123 p1) {r : Bool} (hm : m_relay_each_api_Span p0 p1 = some r) : Gv Tryz.prog 61 [.slice pA0 p0.length pc0, pv1] w (RetS w [] φ (fun φ_ L_ v => v = .bool r ∧ L_ = [])) := by
 unfold m_relay_each_api_Span at hm
 refine Gv.of Tryz.func61 rfl Tryz.ntmps61 Tryz.results61 rfl ?_
 refine CK.seq ?_
 refine CK.reg (ks := []) (.fx 0 (.fl 1 (.nil)) .stop) rfl ?_
 refine OKS.box (cs := [pv1]) rfl rfl rfl rfl rfl rfl (FnOK.cells ha1) hS ?_
 intro W1 b2 hS3
 have q := hS3.freeze (k := 0) rfl
 obtain ⟨φ5, le6, hC7, hS8⟩ := q
 replace hC7 := Cl.of hC7
 have hS9 : St ⟨w, [], φ⟩ φ5 [] W1 := hS8
 replace hC7 : Cl φ5 b2 0 [pv1] := hC7
 refine OKS.ra rfl rfl rfl rfl rfl rfl ?_
 refine OKS.e ?_
 refine thenQ_n ?_
 refine CK.seq ?_
 refine CK.reg (ks := []) (.fl 0 (.fl 1 (.fx 2 (.fl 3 (.fl 4 (.nil))) .stop))) rfl ?_
 refine OKS.rm rfl rfl rfl rfl rfl rfl ?_
 refine OKS.r rfl rfl rfl rfl (fun _ => Runs.mkf rfl mapnil (mapcons rfl mapnil)) ?_
 have h10 := ha0.le le6
 have h11 := ha1.le le6
 have hF12 : FnOK Tryz.prog φ5 (.func (.func 113) #[] #[.pointer (some ⟨b2, 0, none⟩)]) ar123 rr123 (fun x => m_relay_each_api_Span_1 x p1) := ⟨113, [], [.pointer (some ⟨b2, 0, none⟩)], rfl, Tryz.call113, fun φ1 w1 x y vs le hs ha hm => by obtain rfl := ha; exact w_relay_each_api_Span_1 x p1 b2 pv1 w1 φ1 hs (hC7.le le) (h11.le le) hm⟩
 have q := bnd hm
 obtain ⟨x13, h14, hm15⟩ := q
 refine OKS.callH 0 rfl rfl rfl rfl (Enters.mk rfl rfl Tryz.call112 (mapcons rfl (mapcons rfl mapnil)) rfl) hS9 (fun hs => w_slices_ContainsFunc_api_Span_api_Span p0 pA0 pc0 (fun x => m_relay_each_api_Span_1 x p1) (.func (.func 113) #[] #[.pointer (some ⟨b2, 0, none⟩)]) W1 φ5 hs h10 hF12 h14) (.inr rfl) ?_
 rintro φ16 L17 v18 W19 le20 hS21 ⟨rfl, rfl⟩
 have hS22 : St ⟨w, [], φ⟩ φ16 [] W19 := hS21
 refine OKS.r rfl rfl rfl rfl (fun _ => Runs.notT rfl rfl) ?_
 refine OKS.ra rfl rfl rfl rfl rfl rfl ?_
 refine OKS.e ?_
 refine thenQ_n ?_
 refine CK.ret ?_
 cases hm15
 exact ⟨rfl, _, (res1 rfl), φ16, _, hS22, rfl, rfl⟩

set_option maxHeartbeats 4000000 in
theorem w_relay_Chances_1 (p0 : T_api_Span) (w : World) (φ : PHeap) (hS : St ⟨w, [], φ⟩ φ [] w)  {r : Bool} (hm : m_relay_Chances_1 p0 = some r) : Gv Tryz.prog 62 [.agg #[.int .i64 p0.Lo, .int .i64 p0.Hi]] w (RetS w [] φ (fun φ_ L_ v => v = .bool r ∧ L_ = [])) := by
 unfold m_relay_Chances_1 at hm
 refine Gv.of Tryz.func62 rfl Tryz.ntmps62 Tryz.results62 rfl ?_
 refine CK.seq ?_
 refine CK.reg (ks := []) (.fx 0 (.fl 1 (.nil)) .stop) rfl ?_
 refine OKS.box (cs := [.int .i64 p0.Lo, .int .i64 p0.Hi]) rfl rfl rfl rfl rfl rfl (by rfl) hS ?_
 intro W1 b2 hS3
 refine OKS.ra rfl rfl rfl rfl rfl rfl ?_
 refine OKS.e ?_
 refine thenQ_n ?_
 refine CK.seq ?_
 refine CK.reg (ks := []) (.fl 0 (.fl 1 (.fl 2 (.fl 3 (.fl 4 (.fl 5 (.nil))))))) rfl ?_
 refine OKS.r rfl rfl rfl rfl (fun _ => Runs.fa rfl rfl Tryz.runUnderlying46 rfl Tryz.sizeOf3) ?_
 refine OKS.m rfl rfl rfl rfl (hS3.ldB (j := 0) rfl rfl rfl Tryz.isAgg3 (v := .int .i64 p0.Lo) rfl) rfl ?_
 refine OKS.r rfl rfl rfl rfl (fun _ => Runs.fa rfl rfl Tryz.runUnderlying46 rfl Tryz.sizeOf3) ?_
 refine OKS.m rfl rfl rfl rfl (hS3.ldB (j := 0) rfl rfl rfl Tryz.isAgg3 (v := .int .i64 p0.Hi) rfl) rfl ?_
 refine OKS.r rfl rfl rfl rfl (fun _ => Runs.leq rfl rfl rfl) ?_
 refine OKS.ra rfl rfl rfl rfl rfl rfl ?_
 refine OKS.e ?_
 refine thenQ_n ?_
 refine CK.ret ?_
 cases hm
 exact ⟨rfl, _, (res1 rfl), φ, _, (hS3.pick [] _ (by decide) rfl), rfl, rfl⟩

set_option maxHeartbeats 4000000 in
theorem w_relay_Chances (p0 : List T_api_Span) (pA0 : Option Addr) (pc0 : Nat) (w : World) (φ : PHeap) (hS : St ⟨w, [], φ⟩ φ [] w) (ha0 : Sl φ 2 pA0 pc0 p0.length (List.flatMap encT_api_Span p0)) {r : (List T_api_Span) × Int} (hm : m_relay_Chances p0 = some r) : Gv Tryz.prog 18 [.slice pA0 p0.length pc0] w (RetS w [] φ (fun φ_ L_ v => ∃ (A0 : Option Addr) (c0 : Nat), v = .tuple #[.slice A0 r.1.length c0, .int .i64 r.2] ∧ L_ = [.row A0 c0 46 2 (List.flatMap encT_api_Span r.1)])) := by
 unfold m_relay_Chances at hm
 refine Gv.of Tryz.func18 rfl Tryz.ntmps18 Tryz.results18 rfl ?_
 refine CK.seq ?_
 refine CK.reg (ks := []) (.fl 0 (.fl 1 (.nil))) rfl ?_
 refine OKS.ra rfl rfl rfl rfl rfl rfl ?_
 refine OKS.ra rfl rfl rfl rfl rfl rfl ?_
 refine OKS.e ?_
 refine thenQ_n ?_
 refine CK.seq ?_
 refine CK.block ?_
 refine CK.seq ?_
 refine CK.reg (ks := []) (.fl 0 (.fl 1 (.fl 2 (.fl 3 (.nil))))) rfl ?_
 refine OKS.rm rfl rfl rfl rfl rfl rfl ?_
 refine OKS.r rfl rfl rfl rfl (fun _ => Runs.len rfl rfl Tryz.runUnderlying43) ?_
 refine OKS.r rfl rfl rfl rfl (fun _ => Runs.gtr rfl rfl rfl) ?_
 refine OKS.ra rfl rfl rfl rfl rfl rfl ?_
 refine OKS.e ?_
 refine thenQ_n ?_
 by_cases c1 : 40 < (↑p0.length : Int)
 ·have hm2 := hm; rw [if_pos c1] at hm2; replace c1 := Hid.mk c1
  refine CK.condT (decT c1.out) ?_
  refine CK.seq ?_
  refine CK.reg (ks := []) (.fl 0 (.fl 1 (.nil))) rfl ?_
  refine OKS.ra rfl rfl rfl rfl rfl rfl ?_
  refine OKS.ra rfl rfl rfl rfl rfl rfl ?_
  refine OKS.e ?_
  refine thenQ_n ?_
  refine CK.ret ?_
  refine blockQ_r ?_
  refine thenQ_r ?_
  have hS3 := hS.nilrow 46 2
  cases hm2
  exact ⟨rfl, _, (res2 rfl rfl), φ, _, hS3, none, 0, rfl, rfl⟩
 ·have hm5 := hm; rw [if_neg c1] at hm5; replace c1 := Hid.mk c1
  refine CK.condF (decF c1.out) ?_
  refine CK.seq ?_
  refine CK.reg (ks := []) (.fl 0 (.fx 1 (.fl 2 (.fl 3 (.nil))) .stop)) rfl ?_
  refine OKS.rm rfl rfl rfl rfl rfl rfl ?_
  have hF6 : FnOK Tryz.prog φ (.func (.func 62) #[] #[]) ar123 rr123 m_relay_Chances_1 := ⟨62, [], [], rfl, Tryz.call62, fun φ1 w1 x y vs le hs ha hm => by obtain rfl := ha; exact w_relay_Chances_1 x w1 φ1 hs  hm⟩
  have q := bnd hm5
  obtain ⟨x7, h8, hm9⟩ := q
  refine OKS.callH 0 rfl rfl rfl rfl (Enters.mk rfl rfl Tryz.call61 (mapcons rfl (mapcons rfl mapnil)) rfl) hS (fun hs => w_relay_each_api_Span p0 pA0 pc0 m_relay_Chances_1 (.func (.func 62) #[] #[]) w φ hs ha0 hF6 h8) (.inr rfl) ?_
  rintro φ10 L11 v12 W13 le14 hS15 ⟨rfl, rfl⟩
  have hS16 : St ⟨w, [], φ⟩ φ10 [] W13 := hS15
  refine OKS.r rfl rfl rfl rfl (fun _ => Runs.notT rfl rfl) ?_
  refine OKS.ra rfl rfl rfl rfl rfl rfl ?_
  refine OKS.e ?_
  refine thenQ_n ?_
  by_cases c17 : x7 = true
  ·have hm18 := hm9; rw [if_pos c17] at hm18; replace c17 := Hid.mk c17
   refine CK.condF (congrArg (fun b => Value.bool (!b)) c17.out) ?_
   refine CK.skip ?_
   refine blockQ_n ?_
   refine thenQ_n ?_
   refine CK.seq ?_
   refine CK.reg (ks := []) (.fl 0 (.nil)) rfl ?_
   refine OKS.ra rfl rfl rfl rfl rfl rfl ?_
   refine OKS.e ?_
   refine thenQ_n ?_
   refine CK.seq ?_
   refine CK.seq ?_
   refine CK.reg (ks := []) (.fl 0 (.fl 1 (.fl 2 (.nil)))) rfl ?_
   refine OKS.rm rfl rfl rfl rfl rfl rfl ?_
   refine OKS.r rfl rfl rfl rfl (fun _ => Runs.len rfl rfl Tryz.runUnderlying43) ?_
   refine OKS.rm rfl rfl rfl rfl rfl rfl ?_
   refine OKS.e ?_
   refine thenQ_n ?_
   refine CK.block ?_
   have q := bnd hm18
   obtain ⟨y41, hf38, hm37⟩ := q
   have q := forR'_le hf38
   obtain ⟨hle39, hf40⟩ := q
   replace hle39 := Hid.mk hle39
   refine CK.forN' (fun k36 l32 σ_ w_ => ∃ (φ_ : PHeap) (A33 : Option Addr) (c34 : Nat), σ_ 20 = .int .i64 (↑k36 : Int) ∧ σ_ 0 = .slice pA0 p0.length pc0 ∧ σ_ 4 = .slice A33 l32.length c34 ∧ σ_ 18 = .slice pA0 p0.length pc0 ∧ σ_ 19 = .int .i64 (↑p0.length : Int) ∧ PHeap.Le φ10 φ_ ∧ St ⟨w, [], φ⟩ φ_ [.row A33 c34 46 2 (List.flatMap encT_api_Span l32)] w_) hf40 ?_ ?_ ?_
   ·have hS42 := hS16.nilrow 46 2
    exact ⟨φ10, none, 0, rfl, rfl, rfl, rfl, rfl, (PHeap.Le.refl _), hS42⟩
   ·rintro k36 l32 xx46 σ44 W45 hk49 ⟨φ51, A33, c34, fi50, f54, f55, f56, f57, le52, hS53⟩ hx47
    have c58 : Hid ((↑k36 : Int) < (↑p0.length : Int)) := Hid.mk (lp_lt0 hk49)
    replace hk49 := Hid.mk hk49
    have hi59 : Hid (w64 ((↑k36 : Int) + 1) = (↑(k36 + 1) : Int)) := Hid.mk (by have h1 := hle39.out; have h2 := c58.out; rw [w64_in] <;> omega)
    refine CK.seq ?_
    refine CK.reg (ks := []) (.fl 0 (.nil)) rfl ?_
    refine OKS.r rfl rfl rfl rfl (fun _ => Runs.lss rfl fi50 f57) ?_
    refine OKS.e ?_
    refine thenQ_n ?_
    refine CK.seq ?_
    refine CK.condT (decT c58.out) ?_
    refine CK.skip ?_
    refine thenQ_n ?_
    refine CK.seq ?_
    refine CK.block ?_
    refine CK.seq ?_
    refine CK.reg (ks := []) (.fl 0 (.fl 1 (.fl 2 (.fx 3 (.fl 4 (.fx 5 (.nil) .stop)) .stop)))) rfl ?_
    refine OKS.rm rfl rfl rfl rfl rfl fi50 ?_
    have q := bnd hx47
    obtain ⟨x60, h61, hm62⟩ := q
    have h63 := ha0.le le14
    have h64 := h63.le le52
    have q := h64.el (fun _ => rfl) (idx_get h61)
    obtain ⟨b65, off66, hA67, hC68⟩ := q
    refine OKS.r rfl rfl rfl rfl (fun _ => Runs.iaN rfl f56 hA67 fi50 Tryz.runUnderlying43 Tryz.sizeOf46 (idx_lt h61)) ?_
    refine OKS.m rfl rfl rfl rfl (hS53.ldCA (f := 0) hC68 rfl rfl Tryz.isAgg46 Tryz.sizeOf46 (us := [.int .i64 x60.Lo, .int .i64 x60.Hi]) rfl rfl) rfl ?_
    refine OKS.alloc (cs := [.int .i64 0, .int .i64 0]) rfl rfl rfl rfl rfl Tryz.zeroValue46 rfl hS53 ?_
    intro W69 b70 hS71
    refine OKS.ra rfl rfl rfl rfl rfl rfl ?_
    refine OKS.st (j := 0) (vs := [.int .i64 x60.Lo, .int .i64 x60.Hi]) rfl rfl rfl rfl hS71 rfl rfl rfl rfl Tryz.sizeOf46 (Nat.le_of_ble_eq_true rfl) rfl rfl rfl ?_
    intro W73 hS74
    have hS75 : St ⟨w, [], φ⟩ φ51 [.blk b70 46 [.int .i64 x60.Lo, .int .i64 x60.Hi], .row A33 c34 46 2 (List.flatMap encT_api_Span l32)] W73 := hS74
    refine OKS.e ?_
    refine thenQ_n ?_
    refine CK.seq ?_
    refine CK.reg (ks := []) (.fl 0 (.fx 1 (.fx 2 (.nil) .stop) .stop)) rfl ?_
    refine OKS.r rfl rfl rfl rfl (fun _ => Runs.build (pv := [(0, .int .i64 1), (1, .int .i64 1)]) (z := [.int .i64 0, .int .i64 0]) (cs := [.int .i64 1, .int .i64 1]) rfl (mapcons2 rfl (mapcons2 rfl mapnil2)) Tryz.zeroValue46 places46 rfl rfl) ?_
    refine OKS.alloc (cs := [.int .i64 0, .int .i64 0]) rfl rfl rfl rfl rfl Tryz.zeroValue46 rfl hS75 ?_
    intro W76 b77 hS78
    refine OKS.st (j := 0) (vs := [.int .i64 1, .int .i64 1]) rfl rfl rfl rfl hS78 rfl rfl rfl rfl Tryz.sizeOf46 (Nat.le_of_ble_eq_true rfl) rfl rfl rfl ?_
    intro W80 hS81
    have hS82 : St ⟨w, [], φ⟩ φ51 [.blk b77 46 [.int .i64 1, .int .i64 1], .blk b70 46 [.int .i64 x60.Lo, .int .i64 x60.Hi], .row A33 c34 46 2 (List.flatMap encT_api_Span l32)] W80 := hS81
    refine OKS.e ?_
    refine thenQ_n ?_
    refine CK.seq ?_
    refine CK.seq ?_
    refine CK.reg (ks := []) (.fl 0 (.fl 1 (.fl 2 (.nil)))) rfl ?_
    refine OKS.rm rfl rfl rfl rfl rfl f54 ?_
    refine OKS.r rfl rfl rfl rfl (fun _ => Runs.len rfl rfl Tryz.runUnderlying43) ?_
    refine OKS.rm rfl rfl rfl rfl rfl rfl ?_
    refine OKS.e ?_
    refine thenQ_n ?_
    refine CK.block ?_
    have q := bnd hm62
    obtain ⟨⟨y98, y99⟩, hf95, hm94⟩ := q
    try dsimp only at hm94
    have q := forR'_le hf95
    obtain ⟨hle96, hf97⟩ := q
    replace hle96 := Hid.mk hle96
    refine CK.forN' (fun k93 (x91, x92) σ_ w_ => ∃ (φ_ : PHeap), σ_ 28 = .int .i64 (↑k93 : Int) ∧ σ_ 0 = .slice pA0 p0.length pc0 ∧ σ_ 4 = .slice A33 l32.length c34 ∧ σ_ 5 = .int .i64 (↑k36 : Int) ∧ σ_ 6 = .pointer (some ⟨b70, 0, none⟩) ∧ σ_ 7 = .pointer (some ⟨b77, 0, none⟩) ∧ σ_ 18 = .slice pA0 p0.length pc0 ∧ σ_ 19 = .int .i64 (↑p0.length : Int) ∧ σ_ 20 = .int .i64 (↑k36 : Int) ∧ σ_ 26 = .slice pA0 p0.length pc0 ∧ σ_ 27 = .int .i64 (↑p0.length : Int) ∧ PHeap.Le φ51 φ_ ∧ St ⟨w, [], φ⟩ φ_ [.blk b77 46 [.int .i64 x91, .int .i64 x92], .blk b70 46 [.int .i64 x60.Lo, .int .i64 x60.Hi], .row A33 c34 46 2 (List.flatMap encT_api_Span l32)] w_) hf97 ?_ ?_ ?_
    ·exact ⟨φ51, rfl, f54, f55, rfl, rfl, rfl, f56, f57, fi50, rfl, rfl, (PHeap.Le.refl _), hS82⟩
    ·rintro k93 ⟨x91, x92⟩ xx102 σ100 W101 hk105 ⟨φ107, fi106, f110, f111, f112, f113, f114, f115, f116, f117, f118, f119, le108, hS109⟩ hx103
     try dsimp only at hx103
     have c120 : Hid ((↑k93 : Int) < (↑p0.length : Int)) := Hid.mk (lp_lt0 hk105)
     replace hk105 := Hid.mk hk105
     have hi121 : Hid (w64 ((↑k93 : Int) + 1) = (↑(k93 + 1) : Int)) := Hid.mk (by have h1 := hle96.out; have h2 := c120.out; rw [w64_in] <;> omega)
     refine CK.seq ?_
     refine CK.reg (ks := []) (.fl 0 (.nil)) rfl ?_
     refine OKS.r rfl rfl rfl rfl (fun _ => Runs.lss rfl fi106 f119) ?_
     refine OKS.e ?_
     refine thenQ_n ?_
     refine CK.seq ?_
     refine CK.condT (decT c120.out) ?_
     refine CK.skip ?_
     refine thenQ_n ?_
     refine CK.seq ?_
     refine CK.block ?_
     refine CK.seq ?_
     refine CK.reg (ks := []) (.fl 0 (.fl 1 (.fl 2 (.fx 3 (.fl 4 (.fx 5 (.nil) .stop)) .stop)))) rfl ?_
     refine OKS.rm rfl rfl rfl rfl rfl fi106 ?_
     have q := bnd hx103
     obtain ⟨x122, h123, hm124⟩ := q
     have h125 := h64.le le108
     have q := h125.el (fun _ => rfl) (idx_get h123)
     obtain ⟨b126, off127, hA128, hC129⟩ := q
     refine OKS.r rfl rfl rfl rfl (fun _ => Runs.iaN rfl f118 hA128 fi106 Tryz.runUnderlying43 Tryz.sizeOf46 (idx_lt h123)) ?_
     refine OKS.m rfl rfl rfl rfl (hS109.ldCA (f := 0) hC129 rfl rfl Tryz.isAgg46 Tryz.sizeOf46 (us := [.int .i64 x122.Lo, .int .i64 x122.Hi]) rfl rfl) rfl ?_
     refine OKS.alloc (cs := [.int .i64 0, .int .i64 0]) rfl rfl rfl rfl rfl Tryz.zeroValue46 rfl hS109 ?_
     intro W130 b131 hS132
     refine OKS.ra rfl rfl rfl rfl rfl rfl ?_
     refine OKS.st (j := 0) (vs := [.int .i64 x122.Lo, .int .i64 x122.Hi]) rfl rfl rfl rfl hS132 rfl rfl rfl rfl Tryz.sizeOf46 (Nat.le_of_ble_eq_true rfl) rfl rfl rfl ?_
     intro W134 hS135
     have hS136 : St ⟨w, [], φ⟩ φ107 [.blk b131 46 [.int .i64 x122.Lo, .int .i64 x122.Hi], .blk b77 46 [.int .i64 x91, .int .i64 x92], .blk b70 46 [.int .i64 x60.Lo, .int .i64 x60.Hi], .row A33 c34 46 2 (List.flatMap encT_api_Span l32)] W134 := hS135
     refine OKS.e ?_
     refine thenQ_n ?_
     refine CK.seq ?_
     refine CK.seq ?_
     refine CK.reg (ks := []) (.fl 0 (.fl 1 (.fl 2 (.fl 3 (.fl 4 (.fl 5 (.fl 6 (.fl 7 (.fl 8 (.fl 9 (.nil))))))))))) rfl ?_
     refine OKS.rm rfl rfl rfl rfl rfl rfl ?_
     refine OKS.rm rfl rfl rfl rfl rfl f112 ?_
     refine OKS.r rfl rfl rfl rfl (fun _ => Runs.neq rfl rfl rfl) ?_
     refine OKS.rm rfl rfl rfl rfl rfl rfl ?_
     by_cases c137 : (↑k93 : Int) = (↑k36 : Int)
     ·have hm138 := hm124; rw [if_pos c137] at hm138; replace c137 := Hid.mk c137
      refine OKS.p rfl rfl rfl (wantedN rfl rfl (decF (fun h => h c137.out)) rfl) ?_
      refine OKS.p rfl rfl rfl (wantedN rfl rfl (decF (fun h => h c137.out)) rfl) ?_
      refine OKS.p rfl rfl rfl (wantedN rfl rfl (decF (fun h => h c137.out)) rfl) ?_
      refine OKS.p rfl rfl rfl (wantedN rfl rfl (decF (fun h => h c137.out)) rfl) ?_
      refine OKS.p rfl rfl rfl (wantedN rfl rfl (decF (fun h => h c137.out)) rfl) ?_
      refine OKS.r rfl rfl rfl rfl (fun _ => Runs.pickF rfl (decF (fun h => h c137.out)) rfl) ?_
      refine OKS.e ?_
      refine thenQ_n ?_
      refine CK.condF rfl ?_
      refine CK.skip ?_
      refine thenQ_n ?_
      refine CK.seq ?_
      refine CK.reg (ks := []) (.fl 0 (.fl 1 (.fl 2 (.fl 3 (.fl 4 (.fl 5 (.fl 6 (.fl 7 (.fl 8 (.fl 9 (.nil))))))))))) rfl ?_
      refine OKS.rm rfl rfl rfl rfl rfl rfl ?_
      refine OKS.rm rfl rfl rfl rfl rfl f112 ?_
      refine OKS.r rfl rfl rfl rfl (fun _ => Runs.neq rfl rfl rfl) ?_
      refine OKS.rm rfl rfl rfl rfl rfl rfl ?_
      refine OKS.p rfl rfl rfl (wantedN rfl rfl (decF (fun h => h c137.out)) rfl) ?_
      refine OKS.p rfl rfl rfl (wantedN rfl rfl (decF (fun h => h c137.out)) rfl) ?_
      refine OKS.p rfl rfl rfl (wantedN rfl rfl (decF (fun h => h c137.out)) rfl) ?_
      refine OKS.p rfl rfl rfl (wantedN rfl rfl (decF (fun h => h c137.out)) rfl) ?_
      refine OKS.p rfl rfl rfl (wantedN rfl rfl (decF (fun h => h c137.out)) rfl) ?_
      refine OKS.r rfl rfl rfl rfl (fun _ => Runs.pickF rfl (decF (fun h => h c137.out)) rfl) ?_
      refine OKS.e ?_
      refine thenQ_n ?_
      refine CK.condF rfl ?_
      refine CK.skip ?_
      refine blockQ_n ?_
      refine thenQ_n ?_
      refine CK.reg (ks := []) (.fl 0 (.fl 1 (.nil))) rfl ?_
      refine OKS.r rfl rfl rfl rfl (fun _ => Runs.to (Runs.addw rfl fi106 rfl) (congrArg (Value.int .i64) hi121.out)) ?_
      refine OKS.rm rfl rfl rfl rfl rfl rfl ?_
      refine OKS.e ?_
      cases hm138
      exact thenQ_n ⟨rfl, ⟨φ107, rfl, f110, f111, f112, f113, f114, f115, f116, f117, f118, f119, le108, (hS136.pick [1, 2, 3] _ (by decide) rfl)⟩⟩
     ·have hm141 := hm124; rw [if_neg c137] at hm141; replace c137 := Hid.mk c137
      refine OKS.r rfl rfl rfl (wantedY rfl rfl (decT c137.out)) (fun _ => Runs.fa rfl rfl Tryz.runUnderlying46 rfl Tryz.sizeOf3) ?_
      refine OKS.m rfl rfl rfl (wantedY rfl rfl (decT c137.out)) (hS136.ldB (j := 0) rfl rfl rfl Tryz.isAgg3 (v := .int .i64 x122.Hi) rfl) rfl ?_
      refine OKS.r rfl rfl rfl (wantedY rfl rfl (decT c137.out)) (fun _ => Runs.fa rfl f113 Tryz.runUnderlying46 rfl Tryz.sizeOf3) ?_
      refine OKS.m rfl rfl rfl (wantedY rfl rfl (decT c137.out)) (hS136.ldB (j := 2) rfl rfl rfl Tryz.isAgg3 (v := .int .i64 x60.Lo) rfl) rfl ?_
      refine OKS.r rfl rfl rfl (wantedY rfl rfl (decT c137.out)) (fun _ => Runs.lss rfl rfl rfl) ?_
      refine OKS.r rfl rfl rfl rfl (fun _ => Runs.pickT rfl (decT c137.out) rfl) ?_
      refine OKS.e ?_
      refine thenQ_n ?_
      by_cases c142 : x122.Hi < x60.Lo
      ·have hm143 := hm141; rw [if_pos c142] at hm143; replace c142 := Hid.mk c142
       refine CK.condT (decT c142.out) ?_
       refine CK.reg (ks := []) (.fl 0 (.fl 1 (.fl 2 (.fl 3 (.fx 4 (.nil) .stop))))) rfl ?_
       refine OKS.r rfl rfl rfl rfl (fun _ => Runs.fa rfl f114 Tryz.runUnderlying46 rfl Tryz.sizeOf3) ?_
       refine OKS.m rfl rfl rfl rfl (hS136.ldB (j := 1) rfl rfl rfl Tryz.isAgg3 (v := .int .i64 x91) rfl) rfl ?_
       refine OKS.r rfl rfl rfl rfl (fun _ => Runs.addw rfl rfl rfl) ?_
       refine OKS.r rfl rfl rfl rfl (fun _ => Runs.fa rfl f114 Tryz.runUnderlying46 rfl Tryz.sizeOf3) ?_
       refine OKS.st (j := 1) (vs := [.int .i64 (w64 (x91 + 1))]) rfl rfl rfl rfl hS136 rfl rfl rfl rfl Tryz.sizeOf3 (Nat.le_of_ble_eq_true rfl) rfl rfl rfl ?_
       intro W144 hS145
       have hS146 : St ⟨w, [], φ⟩ φ107 [.blk b131 46 [.int .i64 x122.Lo, .int .i64 x122.Hi], .blk b77 46 [.int .i64 (w64 (x91 + 1)), .int .i64 x92], .blk b70 46 [.int .i64 x60.Lo, .int .i64 x60.Hi], .row A33 c34 46 2 (List.flatMap encT_api_Span l32)] W144 := hS145
       refine OKS.e ?_
       refine thenQ_n ?_
       refine CK.seq ?_
       refine CK.reg (ks := []) (.fl 0 (.fl 1 (.fl 2 (.fl 3 (.fl 4 (.fl 5 (.fl 6 (.fl 7 (.fl 8 (.fl 9 (.nil))))))))))) rfl ?_
       refine OKS.rm rfl rfl rfl rfl rfl rfl ?_
       refine OKS.rm rfl rfl rfl rfl rfl f112 ?_
       refine OKS.r rfl rfl rfl rfl (fun _ => Runs.neq rfl rfl rfl) ?_
       refine OKS.rm rfl rfl rfl rfl rfl rfl ?_
       refine OKS.r rfl rfl rfl (wantedY rfl rfl (decT c137.out)) (fun _ => Runs.fa rfl rfl Tryz.runUnderlying46 rfl Tryz.sizeOf3) ?_
       refine OKS.m rfl rfl rfl (wantedY rfl rfl (decT c137.out)) (hS146.ldB (j := 0) rfl rfl rfl Tryz.isAgg3 (v := .int .i64 x122.Lo) rfl) rfl ?_
       refine OKS.r rfl rfl rfl (wantedY rfl rfl (decT c137.out)) (fun _ => Runs.fa rfl f113 Tryz.runUnderlying46 rfl Tryz.sizeOf3) ?_
       refine OKS.m rfl rfl rfl (wantedY rfl rfl (decT c137.out)) (hS146.ldB (j := 2) rfl rfl rfl Tryz.isAgg3 (v := .int .i64 x60.Hi) rfl) rfl ?_
       refine OKS.r rfl rfl rfl (wantedY rfl rfl (decT c137.out)) (fun _ => Runs.lss rfl rfl rfl) ?_
       refine OKS.r rfl rfl rfl rfl (fun _ => Runs.pickT rfl (decT c137.out) rfl) ?_
       refine OKS.e ?_
       refine thenQ_n ?_
       by_cases c147 : x122.Lo < x60.Hi
       ·have hm148 := hm143; rw [if_pos c147] at hm148; replace c147 := Hid.mk c147
        refine CK.condT (decT c147.out) ?_
        refine CK.reg (ks := []) (.fl 0 (.fl 1 (.fl 2 (.fl 3 (.fx 4 (.nil) .stop))))) rfl ?_
        refine OKS.r rfl rfl rfl rfl (fun _ => Runs.fa rfl f114 Tryz.runUnderlying46 rfl Tryz.sizeOf3) ?_
        refine OKS.m rfl rfl rfl rfl (hS146.ldB (j := 1) rfl rfl rfl Tryz.isAgg3 (v := .int .i64 x92) rfl) rfl ?_
        refine OKS.r rfl rfl rfl rfl (fun _ => Runs.addw rfl rfl rfl) ?_
        refine OKS.r rfl rfl rfl rfl (fun _ => Runs.fa rfl f114 Tryz.runUnderlying46 rfl Tryz.sizeOf3) ?_
        refine OKS.st (j := 1) (vs := [.int .i64 (w64 (x92 + 1))]) rfl rfl rfl rfl hS146 rfl rfl rfl rfl Tryz.sizeOf3 (Nat.le_of_ble_eq_true rfl) rfl rfl rfl ?_
        intro W149 hS150
        have hS151 : St ⟨w, [], φ⟩ φ107 [.blk b131 46 [.int .i64 x122.Lo, .int .i64 x122.Hi], .blk b77 46 [.int .i64 (w64 (x91 + 1)), .int .i64 (w64 (x92 + 1))], .blk b70 46 [.int .i64 x60.Lo, .int .i64 x60.Hi], .row A33 c34 46 2 (List.flatMap encT_api_Span l32)] W149 := hS150
        refine OKS.e ?_
        refine blockQ_n ?_
        refine thenQ_n ?_
        refine CK.reg (ks := []) (.fl 0 (.fl 1 (.nil))) rfl ?_
        refine OKS.r rfl rfl rfl rfl (fun _ => Runs.to (Runs.addw rfl fi106 rfl) (congrArg (Value.int .i64) hi121.out)) ?_
        refine OKS.rm rfl rfl rfl rfl rfl rfl ?_
        refine OKS.e ?_
        cases hm148
        exact thenQ_n ⟨rfl, ⟨φ107, rfl, f110, f111, f112, f113, f114, f115, f116, f117, f118, f119, le108, (hS151.pick [1, 2, 3] _ (by decide) rfl)⟩⟩
       ·have hm154 := hm143; rw [if_neg c147] at hm154; replace c147 := Hid.mk c147
        refine CK.condF (decF c147.out) ?_
        refine CK.skip ?_
        refine blockQ_n ?_
        refine thenQ_n ?_
        refine CK.reg (ks := []) (.fl 0 (.fl 1 (.nil))) rfl ?_
        refine OKS.r rfl rfl rfl rfl (fun _ => Runs.to (Runs.addw rfl fi106 rfl) (congrArg (Value.int .i64) hi121.out)) ?_
        refine OKS.rm rfl rfl rfl rfl rfl rfl ?_
        refine OKS.e ?_
        cases hm154
        exact thenQ_n ⟨rfl, ⟨φ107, rfl, f110, f111, f112, f113, f114, f115, f116, f117, f118, f119, le108, (hS146.pick [1, 2, 3] _ (by decide) rfl)⟩⟩
      ·have hm157 := hm141; rw [if_neg c142] at hm157; replace c142 := Hid.mk c142
       refine CK.condF (decF c142.out) ?_
       refine CK.skip ?_
       refine thenQ_n ?_
       refine CK.seq ?_
       refine CK.reg (ks := []) (.fl 0 (.fl 1 (.fl 2 (.fl 3 (.fl 4 (.fl 5 (.fl 6 (.fl 7 (.fl 8 (.fl 9 (.nil))))))))))) rfl ?_
       refine OKS.rm rfl rfl rfl rfl rfl rfl ?_
       refine OKS.rm rfl rfl rfl rfl rfl f112 ?_
       refine OKS.r rfl rfl rfl rfl (fun _ => Runs.neq rfl rfl rfl) ?_
       refine OKS.rm rfl rfl rfl rfl rfl rfl ?_
       refine OKS.r rfl rfl rfl (wantedY rfl rfl (decT c137.out)) (fun _ => Runs.fa rfl rfl Tryz.runUnderlying46 rfl Tryz.sizeOf3) ?_
       refine OKS.m rfl rfl rfl (wantedY rfl rfl (decT c137.out)) (hS136.ldB (j := 0) rfl rfl rfl Tryz.isAgg3 (v := .int .i64 x122.Lo) rfl) rfl ?_
       refine OKS.r rfl rfl rfl (wantedY rfl rfl (decT c137.out)) (fun _ => Runs.fa rfl f113 Tryz.runUnderlying46 rfl Tryz.sizeOf3) ?_
       refine OKS.m rfl rfl rfl (wantedY rfl rfl (decT c137.out)) (hS136.ldB (j := 2) rfl rfl rfl Tryz.isAgg3 (v := .int .i64 x60.Hi) rfl) rfl ?_
       refine OKS.r rfl rfl rfl (wantedY rfl rfl (decT c137.out)) (fun _ => Runs.lss rfl rfl rfl) ?_
       refine OKS.r rfl rfl rfl rfl (fun _ => Runs.pickT rfl (decT c137.out) rfl) ?_
       refine OKS.e ?_
       refine thenQ_n ?_
       by_cases c158 : x122.Lo < x60.Hi
       ·have hm159 := hm157; rw [if_pos c158] at hm159; replace c158 := Hid.mk c158
        refine CK.condT (decT c158.out) ?_
        refine CK.reg (ks := []) (.fl 0 (.fl 1 (.fl 2 (.fl 3 (.fx 4 (.nil) .stop))))) rfl ?_
        refine OKS.r rfl rfl rfl rfl (fun _ => Runs.fa rfl f114 Tryz.runUnderlying46 rfl Tryz.sizeOf3) ?_
        refine OKS.m rfl rfl rfl rfl (hS136.ldB (j := 1) rfl rfl rfl Tryz.isAgg3 (v := .int .i64 x92) rfl) rfl ?_
        refine OKS.r rfl rfl rfl rfl (fun _ => Runs.addw rfl rfl rfl) ?_
        refine OKS.r rfl rfl rfl rfl (fun _ => Runs.fa rfl f114 Tryz.runUnderlying46 rfl Tryz.sizeOf3) ?_
        refine OKS.st (j := 1) (vs := [.int .i64 (w64 (x92 + 1))]) rfl rfl rfl rfl hS136 rfl rfl rfl rfl Tryz.sizeOf3 (Nat.le_of_ble_eq_true rfl) rfl rfl rfl ?_
        intro W160 hS161
        have hS162 : St ⟨w, [], φ⟩ φ107 [.blk b131 46 [.int .i64 x122.Lo, .int .i64 x122.Hi], .blk b77 46 [.int .i64 x91, .int .i64 (w64 (x92 + 1))], .blk b70 46 [.int .i64 x60.Lo, .int .i64 x60.Hi], .row A33 c34 46 2 (List.flatMap encT_api_Span l32)] W160 := hS161
        refine OKS.e ?_
        refine blockQ_n ?_
        refine thenQ_n ?_
        refine CK.reg (ks := []) (.fl 0 (.fl 1 (.nil))) rfl ?_
        refine OKS.r rfl rfl rfl rfl (fun _ => Runs.to (Runs.addw rfl fi106 rfl) (congrArg (Value.int .i64) hi121.out)) ?_
        refine OKS.rm rfl rfl rfl rfl rfl rfl ?_
        refine OKS.e ?_
        cases hm159
        exact thenQ_n ⟨rfl, ⟨φ107, rfl, f110, f111, f112, f113, f114, f115, f116, f117, f118, f119, le108, (hS162.pick [1, 2, 3] _ (by decide) rfl)⟩⟩
       ·have hm165 := hm157; rw [if_neg c158] at hm165; replace c158 := Hid.mk c158
        refine CK.condF (decF c158.out) ?_
        refine CK.skip ?_
        refine blockQ_n ?_
        refine thenQ_n ?_
        refine CK.reg (ks := []) (.fl 0 (.fl 1 (.nil))) rfl ?_
        refine OKS.r rfl rfl rfl rfl (fun _ => Runs.to (Runs.addw rfl fi106 rfl) (congrArg (Value.int .i64) hi121.out)) ?_
        refine OKS.rm rfl rfl rfl rfl rfl rfl ?_
        refine OKS.e ?_
        cases hm165
        exact thenQ_n ⟨rfl, ⟨φ107, rfl, f110, f111, f112, f113, f114, f115, f116, f117, f118, f119, le108, (hS136.pick [1, 2, 3] _ (by decide) rfl)⟩⟩
    ·rintro σ168 W169 ⟨φ174, fi171, f177, f178, f179, f180, f181, f182, f183, f184, f185, f186, le175, hS176⟩
     have c187 : Hid (¬ ((↑(((↑p0.length : Int) : Int) - 0).toNat : Int) < (↑p0.length : Int))) := Hid.mk (lp_end0)
     refine CK.seq ?_
     refine CK.reg (ks := []) (.fl 0 (.nil)) rfl ?_
     refine OKS.r rfl rfl rfl rfl (fun _ => Runs.lss rfl fi171 f186) ?_
     refine OKS.e ?_
     refine thenQ_n ?_
     refine CK.seq ?_
     refine CK.condF (decF c187.out) ?_
     refine CK.exit ?_
     refine thenQ_e ?_
     refine thenQ_e ?_
     refine blockQ_h ?_
     refine thenQ_n ?_
     refine CK.reg (ks := []) (.fl 0 (.fl 1 (.fx 2 (.fx 3 (.fl 4 (.nil)) .stop) .stop))) rfl ?_
     refine OKS.rm rfl rfl rfl rfl rfl f178 ?_
     refine OKS.m rfl rfl rfl rfl (hS176.ldBA (j := 0) rfl rfl f181 Tryz.isAgg46 Tryz.sizeOf46 (vs := [.int .i64 y98, .int .i64 y99]) rfl rfl) rfl ?_
     refine OKS.buildSlice (pv := [(0, .agg #[.int .i64 y98, .int .i64 y99])]) (zs := [.int .i64 0, .int .i64 0]) (cs := [.int .i64 y98, .int .i64 y99]) rfl rfl rfl rfl rfl (mapcons2 rfl mapnil2) Tryz.runUnderlying43 Tryz.sizeOf46 Tryz.zeroValue46 rfl rfl rfl rfl rfl hS176 ?_
     intro W188 b189 hS190
     have hS192 : St ⟨w, [], φ⟩ φ174 [.row (some ⟨b189, 0, none⟩) 1 46 2 (List.flatMap encT_api_Span [(⟨y98, y99⟩ : T_api_Span)]), .blk b77 46 [.int .i64 y98, .int .i64 y99], .blk b70 46 [.int .i64 x60.Lo, .int .i64 x60.Hi], .row A33 c34 46 2 (List.flatMap encT_api_Span l32)] W188 := hS190
     have q := bnd hm94
     obtain ⟨x193, h194, hm195⟩ := q
     refine OKS.append (j := 3) (enc := encT_api_Span) (xs := l32) (ys := [(⟨y98, y99⟩ : T_api_Span)]) (zs := x193) rfl rfl rfl rfl rfl Tryz.underlying43 info46 rfl rfl rfl rfl rfl rfl hS192 rfl rfl rfl (hS192.srcR (j := 0) rfl (by decide) (flatMap_len (f := encT_api_Span) (sz := 2) (fun _ => rfl) [(⟨y98, y99⟩ : T_api_Span)])) (fun _ => rfl) (fun _ => rfl) h194 rfl ?_
     intro A196 c197 W198 hS199
     have hS200 : St ⟨w, [], φ⟩ φ174 [.row (some ⟨b189, 0, none⟩) 1 46 2 (List.flatMap encT_api_Span [(⟨y98, y99⟩ : T_api_Span)]), .blk b77 46 [.int .i64 y98, .int .i64 y99], .blk b70 46 [.int .i64 x60.Lo, .int .i64 x60.Hi], .row A196 c197 46 2 (List.flatMap encT_api_Span x193)] W198 := hS199
     refine OKS.ra rfl rfl rfl rfl rfl rfl ?_
     refine OKS.e ?_
     refine blockQ_n ?_
     refine thenQ_n ?_
     refine CK.reg (ks := []) (.fl 0 (.fl 1 (.nil))) rfl ?_
     refine OKS.r rfl rfl rfl rfl (fun _ => Runs.to (Runs.addw rfl f184 rfl) (congrArg (Value.int .i64) hi59.out)) ?_
     refine OKS.rm rfl rfl rfl rfl rfl rfl ?_
     refine OKS.e ?_
     cases hm195
     exact thenQ_n ⟨rfl, ⟨φ174, A196, c197, rfl, f177, rfl, f182, f183, (le52.trans le175), (hS200.pick [3] _ (by decide) rfl)⟩⟩
   ·rintro σ204 W205 ⟨φ213, A211, c212, fi207, f216, f217, f218, f219, le214, hS215⟩
    have c220 : Hid (¬ ((↑(((↑p0.length : Int) : Int) - 0).toNat : Int) < (↑p0.length : Int))) := Hid.mk (lp_end0)
    refine CK.seq ?_
    refine CK.reg (ks := []) (.fl 0 (.nil)) rfl ?_
    refine OKS.r rfl rfl rfl rfl (fun _ => Runs.lss rfl fi207 f219) ?_
    refine OKS.e ?_
    refine thenQ_n ?_
    refine CK.seq ?_
    refine CK.condF (decF c220.out) ?_
    refine CK.exit ?_
    refine thenQ_e ?_
    refine thenQ_e ?_
    refine blockQ_h ?_
    refine thenQ_n ?_
    refine CK.seq ?_
    refine CK.reg (ks := []) (.fl 0 (.fl 1 (.fl 2 (.nil)))) rfl ?_
    refine OKS.rm rfl rfl rfl rfl rfl f217 ?_
    refine OKS.ra rfl rfl rfl rfl rfl rfl ?_
    refine OKS.ra rfl rfl rfl rfl rfl rfl ?_
    refine OKS.e ?_
    refine thenQ_n ?_
    refine CK.ret ?_
    cases hm37
    exact ⟨rfl, _, (res2 rfl rfl), φ213, _, hS215, A211, c212, rfl, rfl⟩
  ·have hm221 := hm9; rw [if_neg c17] at hm221; replace c17 := Hid.mk c17
   refine CK.condT (congrArg (fun b => Value.bool (!b)) (Bool.eq_false_iff.2 c17.out)) ?_
   refine CK.seq ?_
   refine CK.reg (ks := []) (.fl 0 (.fl 1 (.nil))) rfl ?_
   refine OKS.ra rfl rfl rfl rfl rfl rfl ?_
   refine OKS.ra rfl rfl rfl rfl rfl rfl ?_
   refine OKS.e ?_
   refine thenQ_n ?_
   refine CK.ret ?_
   refine blockQ_r ?_
   refine thenQ_r ?_
   have hS222 := hS16.nilrow 46 2
   cases hm221
   exact ⟨rfl, _, (res2 rfl rfl), φ10, _, hS222, none, 0, rfl, rfl⟩

set_option maxHeartbeats 4000000 in
theorem w_klisterlaw08_RelayChanced_1 (p0 : Int) (p1 : List Int) (pA1 : Option Addr) (pc1 : Nat) (w : World) (φ : PHeap) (hS : St ⟨w, [], φ⟩ φ [] w) (ha0 : Sl φ 1 pA1 pc1 p1.length (List.flatMap encI p1)) {r : Int} (hm : m_klisterlaw08_RelayChanced_1 p0 p1 = some r) : Gv Tryz.prog 23 [.int .i64 p0, .slice pA1 p1.length pc1] w (RetS w [] φ (fun φ_ L_ v => v = .int .i64 r ∧ L_ = [])) := by
 unfold m_klisterlaw08_RelayChanced_1 at hm
 refine Gv.of Tryz.func23 rfl Tryz.ntmps23 Tryz.results23 rfl ?_
 refine CK.seq ?_
 refine CK.reg (ks := []) (.fl 0 (.nil)) rfl ?_
 refine OKS.ra rfl rfl rfl rfl rfl rfl ?_
 refine OKS.e ?_
 refine thenQ_n ?_
 refine CK.seq ?_
 refine CK.reg (ks := []) (.fl 0 (.nil)) rfl ?_
 refine OKS.ra rfl rfl rfl rfl rfl rfl ?_
 refine OKS.e ?_
 refine thenQ_n ?_
 refine CK.seq ?_
 refine CK.seq ?_
 refine CK.reg (ks := []) (.fl 0 (.fl 1 (.fl 2 (.nil)))) rfl ?_
 refine OKS.rm rfl rfl rfl rfl rfl rfl ?_
 refine OKS.r rfl rfl rfl rfl (fun _ => Runs.len rfl rfl Tryz.runUnderlying22) ?_
 refine OKS.rm rfl rfl rfl rfl rfl rfl ?_
 refine OKS.e ?_
 refine thenQ_n ?_
 refine CK.block ?_
 have q := bnd hm
 obtain ⟨y12, hf9, hm8⟩ := q
 have q := forR'_le hf9
 obtain ⟨hle10, hf11⟩ := q
 replace hle10 := Hid.mk hle10
 refine CK.forN' (fun k7 x6 σ_ w_ => ∃ (φ_ : PHeap), σ_ 10 = .int .i64 (↑k7 : Int) ∧ σ_ 0 = .int .i64 p0 ∧ σ_ 1 = .slice pA1 p1.length pc1 ∧ σ_ 5 = .int .i64 x6 ∧ σ_ 8 = .slice pA1 p1.length pc1 ∧ σ_ 9 = .int .i64 (↑p1.length : Int) ∧ PHeap.Le φ φ_ ∧ St ⟨w, [], φ⟩ φ_ [] w_) hf11 ?_ ?_ ?_
 ·exact ⟨φ, rfl, rfl, rfl, rfl, rfl, rfl, (PHeap.Le.refl _), hS⟩
 ·rintro k7 x6 xx15 σ13 W14 hk18 ⟨φ20, fi19, f23, f24, f25, f26, f27, le21, hS22⟩ hx16
  have c28 : Hid ((↑k7 : Int) < (↑p1.length : Int)) := Hid.mk (lp_lt0 hk18)
  replace hk18 := Hid.mk hk18
  have hi29 : Hid (w64 ((↑k7 : Int) + 1) = (↑(k7 + 1) : Int)) := Hid.mk (by have h1 := hle10.out; have h2 := c28.out; rw [w64_in] <;> omega)
  refine CK.seq ?_
  refine CK.reg (ks := []) (.fl 0 (.nil)) rfl ?_
  refine OKS.r rfl rfl rfl rfl (fun _ => Runs.lss rfl fi19 f27) ?_
  refine OKS.e ?_
  refine thenQ_n ?_
  refine CK.seq ?_
  refine CK.condT (decT c28.out) ?_
  refine CK.skip ?_
  refine thenQ_n ?_
  refine CK.seq ?_
  refine CK.block ?_
  refine CK.seq ?_
  refine CK.reg (ks := []) (.fl 0 (.fl 1 (.fl 2 (.nil)))) rfl ?_
  have q := bnd hx16
  obtain ⟨x30, h31, hm32⟩ := q
  have h33 := ha0.le le21
  have q := h33.el (fun _ => rfl) (idx_get h31)
  obtain ⟨b34, off35, hA36, hC37⟩ := q
  refine OKS.r rfl rfl rfl rfl (fun _ => Runs.iaN rfl f26 hA36 fi19 Tryz.runUnderlying22 Tryz.sizeOf3 (idx_lt h31)) ?_
  refine OKS.m rfl rfl rfl rfl (hS22.ldC (f := 0) hC37 (v := .int .i64 x30) rfl rfl Tryz.isAgg3 rfl) rfl ?_
  refine OKS.ra rfl rfl rfl rfl rfl rfl ?_
  refine OKS.e ?_
  refine thenQ_n ?_
  refine CK.seq ?_
  refine CK.reg (ks := []) (.fl 0 (.fl 1 (.fl 2 (.fl 3 (.fl 4 (.fl 5 (.nil))))))) rfl ?_
  refine OKS.rm rfl rfl rfl rfl rfl rfl ?_
  refine OKS.rm rfl rfl rfl rfl rfl f24 ?_
  refine OKS.rm rfl rfl rfl rfl rfl f23 ?_
  have q := bnd hm32
  obtain ⟨x38, h39, hm40⟩ := q
  have q := h33.el (fun _ => rfl) (idx_get h39)
  obtain ⟨b41, off42, hA43, hC44⟩ := q
  refine OKS.r rfl rfl rfl rfl (fun _ => Runs.iaI rfl rfl hA43 rfl Tryz.runUnderlying22 Tryz.sizeOf3 (idx_lo h39) (idx_hi h39)) ?_
  refine OKS.m rfl rfl rfl rfl (hS22.ldC (f := 0) hC44 (v := .int .i64 x38) rfl rfl Tryz.isAgg3 rfl) rfl ?_
  refine OKS.r rfl rfl rfl rfl (fun _ => Runs.lss rfl rfl rfl) ?_
  refine OKS.e ?_
  refine thenQ_n ?_
  by_cases c45 : x30 < x38
  ·have hm46 := hm40; rw [if_pos c45] at hm46; replace c45 := Hid.mk c45
   refine CK.condT (decT c45.out) ?_
   refine CK.reg (ks := []) (.fl 0 (.fl 1 (.fl 2 (.nil)))) rfl ?_
   refine OKS.rm rfl rfl rfl rfl rfl f25 ?_
   refine OKS.r rfl rfl rfl rfl (fun _ => Runs.addw rfl rfl rfl) ?_
   refine OKS.ra rfl rfl rfl rfl rfl rfl ?_
   refine OKS.e ?_
   refine blockQ_n ?_
   refine thenQ_n ?_
   refine CK.reg (ks := []) (.fl 0 (.fl 1 (.nil))) rfl ?_
   refine OKS.r rfl rfl rfl rfl (fun _ => Runs.to (Runs.addw rfl fi19 rfl) (congrArg (Value.int .i64) hi29.out)) ?_
   refine OKS.rm rfl rfl rfl rfl rfl rfl ?_
   refine OKS.e ?_
   cases hm46
   exact thenQ_n ⟨rfl, ⟨φ20, rfl, f23, f24, rfl, f26, f27, le21, hS22⟩⟩
  ·have hm48 := hm40; rw [if_neg c45] at hm48; replace c45 := Hid.mk c45
   refine CK.condF (decF c45.out) ?_
   refine CK.skip ?_
   refine blockQ_n ?_
   refine thenQ_n ?_
   refine CK.reg (ks := []) (.fl 0 (.fl 1 (.nil))) rfl ?_
   refine OKS.r rfl rfl rfl rfl (fun _ => Runs.to (Runs.addw rfl fi19 rfl) (congrArg (Value.int .i64) hi29.out)) ?_
   refine OKS.rm rfl rfl rfl rfl rfl rfl ?_
   refine OKS.e ?_
   cases hm48
   exact thenQ_n ⟨rfl, ⟨φ20, rfl, f23, f24, f25, f26, f27, le21, hS22⟩⟩
 ·rintro σ50 W51 ⟨φ55, fi53, f58, f59, f60, f61, f62, le56, hS57⟩
  have c63 : Hid (¬ ((↑(((↑p1.length : Int) : Int) - 0).toNat : Int) < (↑p1.length : Int))) := Hid.mk (lp_end0)
  refine CK.seq ?_
  refine CK.reg (ks := []) (.fl 0 (.nil)) rfl ?_
  refine OKS.r rfl rfl rfl rfl (fun _ => Runs.lss rfl fi53 f62) ?_
  refine OKS.e ?_
  refine thenQ_n ?_
  refine CK.seq ?_
  refine CK.condF (decF c63.out) ?_
  refine CK.exit ?_
  refine thenQ_e ?_
  refine thenQ_e ?_
  refine blockQ_h ?_
  refine thenQ_n ?_
  refine CK.seq ?_
  refine CK.reg (ks := []) (.fl 0 (.fl 1 (.nil))) rfl ?_
  refine OKS.rm rfl rfl rfl rfl rfl f60 ?_
  refine OKS.ra rfl rfl rfl rfl rfl rfl ?_
  refine OKS.e ?_
  refine thenQ_n ?_
  refine CK.ret ?_
  cases hm8
  exact ⟨rfl, _, (res1 rfl), φ55, _, hS57, rfl, rfl⟩
end Go.Proofs.YtfdnbaahdjlapaaGreat
