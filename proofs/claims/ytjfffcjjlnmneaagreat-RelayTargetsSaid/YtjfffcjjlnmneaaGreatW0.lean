/- Walks, printed by a program: each function does what its model says. -/
import Derived.Test.YtjfffcjjlnmneaaGreatEnc
namespace Go.Proofs.YtjfffcjjlnmneaaGreat
open Go.KL
set_option maxHeartbeats 4000000 in
theorem w_klisterkit_Of (p0 : List Int) (pA0 : Option Addr) (pc0 : Nat) (w : World) (φ : PHeap) (hS : St ⟨w, [], φ⟩ φ [] w) (ha0 : Sl φ 1 pA0 pc0 p0.length (List.flatMap encB8 p0)) {r : T_klisterkit_Deck} (hm : m_klisterkit_Of p0 = some r) : Gv Tryz.prog 16 [.slice pA0 p0.length pc0] w (RetS w [] φ (fun φ_ L_ v => ∃ (b0 : Nat) (A0p0 : Option Addr) (c0p0 : Nat), v = .pointer (some ⟨b0, 0, none⟩) ∧ L_ = [.blk b0 194 [.slice A0p0 r.bytes.length c0p0, .int .i64 r.next, .int .u32 r.state]] ∧ Sl φ_ 1 A0p0 c0p0 r.bytes.length (List.flatMap encB8 r.bytes))) := by
 unfold m_klisterkit_Of at hm
 refine Gv.of Tryz.func16 rfl Tryz.ntmps16 Tryz.results16 rfl ?_
 refine CK.seq ?_
 refine CK.reg (ks := []) (.fl 0 (.nil)) rfl ?_
 refine OKS.ra rfl rfl rfl rfl rfl rfl ?_
 refine OKS.e ?_
 refine thenQ_n ?_
 refine CK.seq ?_
 refine CK.reg (ks := []) (.fl 0 (.fl 1 (.fx 2 (.fl 3 (.nil)) .stop))) rfl ?_
 refine OKS.rm rfl rfl rfl rfl rfl rfl ?_
 refine OKS.r rfl rfl rfl rfl (fun _ => Runs.build (pv := [(0, .slice pA0 p0.length pc0), (2, .int .u32 17)]) (z := [.slice none 0 0, .int .i64 0, .int .u32 0]) (cs := [.slice pA0 p0.length pc0, .int .i64 0, .int .u32 17]) rfl (mapcons2 rfl (mapcons2 rfl mapnil2)) Tryz.zeroValue194 places194 rfl rfl) ?_
 refine OKS.box (cs := [.slice pA0 p0.length pc0, .int .i64 0, .int .u32 17]) rfl rfl rfl rfl rfl rfl (by rfl) hS ?_
 intro W1 b2 hS3
 refine OKS.ra rfl rfl rfl rfl rfl rfl ?_
 refine OKS.e ?_
 refine thenQ_n ?_
 refine CK.ret ?_
 cases hm
 exact ⟨rfl, _, (res1 rfl), φ, _, hS3, b2, pA0, pc0, rfl, rfl, ha0⟩

set_option maxHeartbeats 4000000 in
theorem w_klisterkit_Deck_Draw (p0 : T_klisterkit_Deck) (pb0 : Nat) (pA0_0 : Option Addr) (pc0_0 : Nat) (p1 : Int) (w : World) (φ : PHeap) (hS : St ⟨w, [.blk pb0 194 [.slice pA0_0 p0.bytes.length pc0_0, .int .i64 p0.next, .int .u32 p0.state]], φ⟩ φ [.blk pb0 194 [.slice pA0_0 p0.bytes.length pc0_0, .int .i64 p0.next, .int .u32 p0.state]] w) (ha0 : Sl φ 1 pA0_0 pc0_0 p0.bytes.length (List.flatMap encB8 p0.bytes)) {r : Int × T_klisterkit_Deck} (hm : m_klisterkit_Deck_Draw p0 p1 = some r) : Gv Tryz.prog 40 [.pointer (some ⟨pb0, 0, none⟩), .int .i64 p1] w (RetS w [.blk pb0 194 [.slice pA0_0 p0.bytes.length pc0_0, .int .i64 p0.next, .int .u32 p0.state]] φ (fun φ_ L_ v => ∃ (Ao00 : Option Addr) (co00 : Nat), v = .int .i64 r.1 ∧ L_ = [.blk pb0 194 [.slice Ao00 r.2.bytes.length co00, .int .i64 r.2.next, .int .u32 r.2.state]] ∧ Sl φ_ 1 Ao00 co00 r.2.bytes.length (List.flatMap encB8 r.2.bytes))) := by
 unfold m_klisterkit_Deck_Draw at hm
 refine Gv.of Tryz.func40 rfl Tryz.ntmps40 Tryz.results40 rfl ?_
 refine CK.seq ?_
 refine CK.reg (ks := []) (.fl 0 (.nil)) rfl ?_
 refine OKS.ra rfl rfl rfl rfl rfl rfl ?_
 refine OKS.e ?_
 refine thenQ_n ?_
 refine CK.seq ?_
 refine CK.seq ?_
 refine CK.reg (ks := []) (.fl 0 (.fl 1 (.fl 2 (.fl 3 (.fl 4 (.fl 5 (.fl 6 (.fl 7 (.fl 8 (.fl 9 (.nil))))))))))) rfl ?_
 refine OKS.rm rfl rfl rfl rfl rfl rfl ?_
 refine OKS.r rfl rfl rfl rfl (fun _ => Runs.leq rfl rfl rfl) ?_
 refine OKS.rm rfl rfl rfl rfl rfl rfl ?_
 by_cases c2 : p1 ≤ 1
 ·have hm3 := hm; rw [if_pos c2] at hm3; replace c2 := Hid.mk c2
  refine OKS.p rfl rfl rfl (wantedN rfl rfl (decT c2.out) rfl) ?_
  refine OKS.p rfl rfl rfl (wantedN rfl rfl (decT c2.out) rfl) ?_
  refine OKS.p rfl rfl rfl (wantedN rfl rfl (decT c2.out) rfl) ?_
  refine OKS.p rfl rfl rfl (wantedN rfl rfl (decT c2.out) rfl) ?_
  refine OKS.p rfl rfl rfl (wantedN rfl rfl (decT c2.out) rfl) ?_
  refine OKS.p rfl rfl rfl (wantedN rfl rfl (decT c2.out) rfl) ?_
  refine OKS.r rfl rfl rfl rfl (fun _ => Runs.pickT rfl (decT c2.out) rfl) ?_
  refine OKS.e ?_
  refine thenQ_n ?_
  refine CK.condT rfl ?_
  refine CK.seq ?_
  refine CK.reg (ks := []) (.fl 0 (.nil)) rfl ?_
  refine OKS.ra rfl rfl rfl rfl rfl rfl ?_
  refine OKS.e ?_
  refine thenQ_n ?_
  refine CK.ret ?_
  refine thenQ_r ?_
  cases hm3
  exact ⟨rfl, _, (res1 rfl), φ, _, hS, pA0_0, pc0_0, rfl, rfl, ha0⟩
 ·have hm4 := hm; rw [if_neg c2] at hm4; replace c2 := Hid.mk c2
  refine OKS.rm rfl rfl rfl (wantedY rfl rfl (decF c2.out)) rfl rfl ?_
  refine OKS.r rfl rfl rfl (wantedY rfl rfl (decF c2.out)) (fun _ => Runs.nilp rfl rfl) ?_
  refine OKS.r rfl rfl rfl (wantedY rfl rfl (decF c2.out)) (fun _ => Runs.fa rfl rfl Tryz.runUnderlying194 rfl Tryz.sizeOf22) ?_
  refine OKS.m rfl rfl rfl (wantedY rfl rfl (decF c2.out)) (hS.ldB (j := 0) rfl rfl rfl Tryz.isAgg22 (v := .slice pA0_0 p0.bytes.length pc0_0) rfl) rfl ?_
  refine OKS.r rfl rfl rfl (wantedY rfl rfl (decF c2.out)) (fun _ => Runs.len rfl rfl Tryz.runUnderlying22) ?_
  refine OKS.r rfl rfl rfl (wantedY rfl rfl (decF c2.out)) (fun _ => Runs.eql rfl rfl rfl) ?_
  refine OKS.r rfl rfl rfl rfl (fun _ => Runs.pickF rfl (decF c2.out) rfl) ?_
  refine OKS.e ?_
  refine thenQ_n ?_
  by_cases c5 : (↑p0.bytes.length : Int) = 0
  ·have hm6 := hm4; rw [if_pos c5] at hm6; replace c5 := Hid.mk c5
   refine CK.condT (decT c5.out) ?_
   refine CK.seq ?_
   refine CK.reg (ks := []) (.fl 0 (.nil)) rfl ?_
   refine OKS.ra rfl rfl rfl rfl rfl rfl ?_
   refine OKS.e ?_
   refine thenQ_n ?_
   refine CK.ret ?_
   refine thenQ_r ?_
   cases hm6
   exact ⟨rfl, _, (res1 rfl), φ, _, hS, pA0_0, pc0_0, rfl, rfl, ha0⟩
  ·have hm7 := hm4; rw [if_neg c5] at hm7; replace c5 := Hid.mk c5
   refine CK.condF (decF c5.out) ?_
   refine CK.skip ?_
   refine thenQ_n ?_
   refine CK.seq ?_
   refine CK.anyOrd Tryz.mixed [3, 3, 3, 1, 3, 3, 3, 1, 3, 3, 3, 1, 3, 3, 3, 1, 3, 3, 3, 3, 1, 3, 3, 3, 1, 3, 3, 3, 3, 3] (.fl 0 (.fl 1 (.fl 2 (.fl 3 (.fl 4 (.fl 5 (.fl 6 (.fl 7 (.fl 8 (.fl 9 (.fl 10 (.fl 11 (.fl 12 (.fl 13 (.fl 14 (.fl 15 (.fl 16 (.fl 17 (.fl 18 (.fl 19 (.fl 20 (.fl 21 (.fl 22 (.fl 23 (.fl 24 (.fl 25 (.fl 26 (.fl 27 (.fl 28 (.fl 29 (.nil))))))))))))))))))))))))))))))) (by kernel_rfl) ?_
   have hS8 := hS.drew
   generalize hw_W9 : ({ w with drawn := w.drawn + 1 } : World) = W9 at hS8 ⊢
   refine OKS.rm rfl rfl rfl rfl rfl rfl ?_
   refine OKS.r rfl rfl rfl rfl (fun _ => Runs.nilp rfl rfl) ?_
   refine OKS.r rfl rfl rfl rfl (fun _ => Runs.fa rfl rfl Tryz.runUnderlying194 rfl Tryz.sizeOf22) ?_
   refine OKS.m rfl rfl rfl rfl (hS8.ldB (j := 0) rfl rfl rfl Tryz.isAgg22 (v := .slice pA0_0 p0.bytes.length pc0_0) rfl) rfl ?_
   refine OKS.rm rfl rfl rfl rfl rfl rfl ?_
   refine OKS.r rfl rfl rfl rfl (fun _ => Runs.nilp rfl rfl) ?_
   refine OKS.r rfl rfl rfl rfl (fun _ => Runs.fa rfl rfl Tryz.runUnderlying194 rfl Tryz.sizeOf3) ?_
   refine OKS.m rfl rfl rfl rfl (hS8.ldB (j := 0) rfl rfl rfl Tryz.isAgg3 (v := .int .i64 p0.next) rfl) rfl ?_
   refine OKS.rm rfl rfl rfl rfl rfl rfl ?_
   refine OKS.r rfl rfl rfl rfl (fun _ => Runs.nilp rfl rfl) ?_
   refine OKS.r rfl rfl rfl rfl (fun _ => Runs.fa rfl rfl Tryz.runUnderlying194 rfl Tryz.sizeOf22) ?_
   refine OKS.m rfl rfl rfl rfl (hS8.ldB (j := 0) rfl rfl rfl Tryz.isAgg22 (v := .slice pA0_0 p0.bytes.length pc0_0) rfl) rfl ?_
   refine OKS.r rfl rfl rfl rfl (fun _ => Runs.len rfl rfl Tryz.runUnderlying22) ?_
   have q := bnd hm7
   obtain ⟨x10, h11, hm12⟩ := q
   refine OKS.r rfl rfl rfl rfl (fun _ => Runs.rem rfl rfl rfl h11) ?_
   have q := bnd hm12
   obtain ⟨x13, h14, hm15⟩ := q
   have q := ha0.el (fun _ => rfl) (idx_get h14)
   obtain ⟨b16, off17, hA18, hC19⟩ := q
   refine OKS.r rfl rfl rfl rfl (fun _ => Runs.iaI rfl rfl hA18 rfl Tryz.runUnderlying22 Tryz.sizeOf5 (idx_lo h14) (idx_hi h14)) ?_
   refine OKS.m rfl rfl rfl rfl (hS8.ldC (f := 0) hC19 (v := .int .u8 x13) rfl rfl Tryz.isAgg5 rfl) rfl ?_
   refine OKS.r rfl rfl rfl rfl (fun _ => Runs.cvu rfl rfl Tryz.runUnderlying5 Tryz.runUnderlying192 rfl rfl) ?_
   refine OKS.rm rfl rfl rfl rfl rfl rfl ?_
   refine OKS.r rfl rfl rfl rfl (fun _ => Runs.nilp rfl rfl) ?_
   refine OKS.r rfl rfl rfl rfl (fun _ => Runs.fa rfl rfl Tryz.runUnderlying194 rfl Tryz.sizeOf3) ?_
   refine OKS.m rfl rfl rfl rfl (hS8.ldB (j := 0) rfl rfl rfl Tryz.isAgg3 (v := .int .i64 p0.next) rfl) rfl ?_
   refine OKS.rm rfl rfl rfl rfl rfl rfl ?_
   refine OKS.r rfl rfl rfl rfl (fun _ => Runs.nilp rfl rfl) ?_
   refine OKS.r rfl rfl rfl rfl (fun _ => Runs.fa rfl rfl Tryz.runUnderlying194 rfl Tryz.sizeOf22) ?_
   refine OKS.m rfl rfl rfl rfl (hS8.ldB (j := 0) rfl rfl rfl Tryz.isAgg22 (v := .slice pA0_0 p0.bytes.length pc0_0) rfl) rfl ?_
   refine OKS.r rfl rfl rfl rfl (fun _ => Runs.len rfl rfl Tryz.runUnderlying22) ?_
   have q := bnd hm15
   obtain ⟨x20, h21, hm22⟩ := q
   refine OKS.r rfl rfl rfl rfl (fun _ => Runs.quo rfl rfl rfl h21) ?_
   refine OKS.r rfl rfl rfl rfl (fun _ => Runs.cvu rfl rfl Tryz.runUnderlying3 Tryz.runUnderlying192 rfl rfl) ?_
   refine OKS.ra rfl rfl rfl rfl rfl rfl ?_
   refine OKS.ra rfl rfl rfl rfl rfl rfl ?_
   refine OKS.e ?_
   refine thenQ_n ?_
   refine CK.seq ?_
   refine CK.fresh fun σ23 hσ24 => ?_
   have f25 : σ23 0 = .pointer (some ⟨pb0, 0, none⟩) := (hσ24 0).trans rfl
   have f26 : σ23 1 = .int .i64 p1 := (hσ24 1).trans rfl
   have f27 : σ23 5 = .int .u32 (wu32 x13) := (hσ24 5).trans rfl
   have f28 : σ23 6 = .int .u32 (wu32 x20) := (hσ24 6).trans rfl
   clear hσ24
   refine CK.reg (ks := []) (.fl 0 (.fl 1 (.fl 2 (.fl 3 (.fl 4 (.fl 5 (.fl 6 (.fx 7 (.nil) .stop)))))))) rfl ?_
   refine OKS.rm rfl rfl rfl rfl rfl f25 ?_
   refine OKS.r rfl rfl rfl rfl (fun _ => Runs.nilp rfl rfl) ?_
   refine OKS.r rfl rfl rfl rfl (fun _ => Runs.fa rfl rfl Tryz.runUnderlying194 rfl Tryz.sizeOf3) ?_
   refine OKS.m rfl rfl rfl rfl (hS8.ldB (j := 0) rfl rfl rfl Tryz.isAgg3 (v := .int .i64 p0.next) rfl) rfl ?_
   refine OKS.r rfl rfl rfl rfl (fun _ => Runs.addw rfl rfl rfl) ?_
   refine OKS.r rfl rfl rfl rfl (fun _ => Runs.nilp rfl rfl) ?_
   refine OKS.r rfl rfl rfl rfl (fun _ => Runs.fa rfl rfl Tryz.runUnderlying194 rfl Tryz.sizeOf3) ?_
   refine OKS.st (j := 0) (vs := [.int .i64 (w64 (p0.next + 1))]) rfl rfl rfl rfl hS8 rfl rfl rfl rfl Tryz.sizeOf3 (Nat.le_of_ble_eq_true rfl) rfl rfl rfl ?_
   intro W29 hS30
   have hS31 : St ⟨w, [.blk pb0 194 [.slice pA0_0 p0.bytes.length pc0_0, .int .i64 p0.next, .int .u32 p0.state]], φ⟩ φ [.blk pb0 194 [.slice pA0_0 p0.bytes.length pc0_0, .int .i64 (w64 (p0.next + 1)), .int .u32 p0.state]] W29 := hS30
   refine OKS.e ?_
   refine thenQ_n ?_
   refine CK.seq ?_
   refine CK.reg (ks := []) (.fl 0 (.fl 1 (.fl 2 (.fl 3 (.fl 4 (.fl 5 (.fl 6 (.fl 7 (.fl 8 (.fl 9 (.fl 10 (.fl 11 (.fl 12 (.fl 13 (.fl 14 (.fx 15 (.nil) .stop)))))))))))))))) rfl ?_
   refine OKS.rm rfl rfl rfl rfl rfl f25 ?_
   refine OKS.rm rfl rfl rfl rfl rfl f25 ?_
   refine OKS.r rfl rfl rfl rfl (fun _ => Runs.nilp rfl rfl) ?_
   refine OKS.r rfl rfl rfl rfl (fun _ => Runs.fa rfl rfl Tryz.runUnderlying194 rfl Tryz.sizeOf192) ?_
   refine OKS.m rfl rfl rfl rfl (hS31.ldB (j := 0) rfl rfl rfl Tryz.isAgg192 (v := .int .u32 p0.state) rfl) rfl ?_
   refine OKS.r rfl rfl rfl rfl (fun _ => Runs.mulu rfl rfl rfl) ?_
   refine OKS.rm rfl rfl rfl rfl rfl f27 ?_
   refine OKS.r rfl rfl rfl rfl (fun _ => Runs.addu rfl rfl rfl) ?_
   refine OKS.rm rfl rfl rfl rfl rfl f28 ?_
   refine OKS.r rfl rfl rfl rfl (fun _ => Runs.mulu rfl rfl rfl) ?_
   refine OKS.r rfl rfl rfl rfl (fun _ => Runs.addu rfl rfl rfl) ?_
   refine OKS.r rfl rfl rfl rfl (fun _ => Runs.addu rfl rfl rfl) ?_
   have q := bnd hm22
   obtain ⟨x32, h33, hm34⟩ := q
   refine OKS.r rfl rfl rfl rfl (fun _ => Runs.rem rfl rfl rfl h33) ?_
   refine OKS.r rfl rfl rfl rfl (fun _ => Runs.nilp rfl rfl) ?_
   refine OKS.r rfl rfl rfl rfl (fun _ => Runs.fa rfl rfl Tryz.runUnderlying194 rfl Tryz.sizeOf192) ?_
   refine OKS.st (j := 0) (vs := [.int .u32 x32]) rfl rfl rfl rfl hS31 rfl rfl rfl rfl Tryz.sizeOf192 (Nat.le_of_ble_eq_true rfl) rfl rfl rfl ?_
   intro W35 hS36
   have hS37 : St ⟨w, [.blk pb0 194 [.slice pA0_0 p0.bytes.length pc0_0, .int .i64 p0.next, .int .u32 p0.state]], φ⟩ φ [.blk pb0 194 [.slice pA0_0 p0.bytes.length pc0_0, .int .i64 (w64 (p0.next + 1)), .int .u32 x32]] W35 := hS36
   refine OKS.e ?_
   refine thenQ_n ?_
   refine CK.seq ?_
   refine CK.seq ?_
   refine CK.reg (ks := []) (.fl 0 (.fl 1 (.fl 2 (.fl 3 (.fl 4 (.fl 5 (.nil))))))) rfl ?_
   refine OKS.rm rfl rfl rfl rfl rfl f28 ?_
   refine OKS.r rfl rfl rfl rfl (fun _ => Runs.eql rfl rfl rfl) ?_
   refine OKS.rm rfl rfl rfl rfl rfl rfl ?_
   by_cases c38 : (wu32 x20) = 0
   ·have hm39 := hm34; rw [if_pos c38] at hm39; replace c38 := Hid.mk c38
    refine OKS.rm rfl rfl rfl (wantedY rfl rfl (decT c38.out)) rfl f26 ?_
    refine OKS.r rfl rfl rfl (wantedY rfl rfl (decT c38.out)) (fun _ => Runs.leq rfl rfl rfl) ?_
    refine OKS.r rfl rfl rfl rfl (fun _ => Runs.pickT rfl (decT c38.out) rfl) ?_
    refine OKS.e ?_
    refine thenQ_n ?_
    by_cases c40 : p1 ≤ 256
    ·have hm41 := hm39; rw [if_pos c40] at hm41; replace c40 := Hid.mk c40
     refine CK.condT (decT c40.out) ?_
     refine CK.seq ?_
     refine CK.reg (ks := []) (.fl 0 (.fl 1 (.fl 2 (.fl 3 (.fl 4 (.nil)))))) rfl ?_
     refine OKS.rm rfl rfl rfl rfl rfl f27 ?_
     refine OKS.r rfl rfl rfl rfl (fun _ => Runs.cvw rfl rfl Tryz.runUnderlying192 Tryz.runUnderlying3 rfl rfl) ?_
     refine OKS.rm rfl rfl rfl rfl rfl f26 ?_
     have q := bnd hm41
     obtain ⟨x42, h43, hm44⟩ := q
     refine OKS.r rfl rfl rfl rfl (fun _ => Runs.rem rfl rfl rfl h43) ?_
     refine OKS.ra rfl rfl rfl rfl rfl rfl ?_
     refine OKS.e ?_
     refine thenQ_n ?_
     refine CK.ret ?_
     refine thenQ_r ?_
     cases hm44
     exact ⟨rfl, _, (res1 rfl), φ, _, hS37, pA0_0, pc0_0, rfl, rfl, ha0⟩
    ·have hm45 := hm39; rw [if_neg c40] at hm45; replace c40 := Hid.mk c40
     refine CK.condF (decF c40.out) ?_
     refine CK.skip ?_
     refine thenQ_n ?_
     refine CK.seq ?_
     refine CK.reg (ks := []) (.fl 0 (.fl 1 (.fl 2 (.fl 3 (.fl 4 (.fl 5 (.fl 6 (.fl 7 (.fl 8 (.fl 9 (.fl 10 (.nil)))))))))))) rfl ?_
     refine OKS.rm rfl rfl rfl rfl rfl f25 ?_
     refine OKS.r rfl rfl rfl rfl (fun _ => Runs.nilp rfl rfl) ?_
     refine OKS.r rfl rfl rfl rfl (fun _ => Runs.fa rfl rfl Tryz.runUnderlying194 rfl Tryz.sizeOf192) ?_
     refine OKS.m rfl rfl rfl rfl (hS37.ldB (j := 0) rfl rfl rfl Tryz.isAgg192 (v := .int .u32 x32) rfl) rfl ?_
     refine OKS.r rfl rfl rfl rfl (fun _ => Runs.mulu rfl rfl rfl) ?_
     refine OKS.rm rfl rfl rfl rfl rfl f27 ?_
     refine OKS.r rfl rfl rfl rfl (fun _ => Runs.addu rfl rfl rfl) ?_
     refine OKS.r rfl rfl rfl rfl (fun _ => Runs.cvw rfl rfl Tryz.runUnderlying192 Tryz.runUnderlying3 rfl rfl) ?_
     refine OKS.rm rfl rfl rfl rfl rfl f26 ?_
     have q := bnd hm45
     obtain ⟨x46, h47, hm48⟩ := q
     refine OKS.r rfl rfl rfl rfl (fun _ => Runs.rem rfl rfl rfl h47) ?_
     refine OKS.ra rfl rfl rfl rfl rfl rfl ?_
     refine OKS.e ?_
     refine thenQ_n ?_
     refine CK.ret ?_
     cases hm48
     exact ⟨rfl, _, (res1 rfl), φ, _, hS37, pA0_0, pc0_0, rfl, rfl, ha0⟩
   ·have hm49 := hm34; rw [if_neg c38] at hm49; replace c38 := Hid.mk c38
    refine OKS.p rfl rfl rfl (wantedN rfl rfl (decF c38.out) rfl) ?_
    refine OKS.p rfl rfl rfl (wantedN rfl rfl (decF c38.out) rfl) ?_
    refine OKS.r rfl rfl rfl rfl (fun _ => Runs.pickF rfl (decF c38.out) rfl) ?_
    refine OKS.e ?_
    refine thenQ_n ?_
    refine CK.condF rfl ?_
    refine CK.skip ?_
    refine thenQ_n ?_
    refine CK.seq ?_
    refine CK.reg (ks := []) (.fl 0 (.fl 1 (.fl 2 (.fl 3 (.fl 4 (.fl 5 (.fl 6 (.fl 7 (.fl 8 (.fl 9 (.fl 10 (.nil)))))))))))) rfl ?_
    refine OKS.rm rfl rfl rfl rfl rfl f25 ?_
    refine OKS.r rfl rfl rfl rfl (fun _ => Runs.nilp rfl rfl) ?_
    refine OKS.r rfl rfl rfl rfl (fun _ => Runs.fa rfl rfl Tryz.runUnderlying194 rfl Tryz.sizeOf192) ?_
    refine OKS.m rfl rfl rfl rfl (hS37.ldB (j := 0) rfl rfl rfl Tryz.isAgg192 (v := .int .u32 x32) rfl) rfl ?_
    refine OKS.r rfl rfl rfl rfl (fun _ => Runs.mulu rfl rfl rfl) ?_
    refine OKS.rm rfl rfl rfl rfl rfl f27 ?_
    refine OKS.r rfl rfl rfl rfl (fun _ => Runs.addu rfl rfl rfl) ?_
    refine OKS.r rfl rfl rfl rfl (fun _ => Runs.cvw rfl rfl Tryz.runUnderlying192 Tryz.runUnderlying3 rfl rfl) ?_
    refine OKS.rm rfl rfl rfl rfl rfl f26 ?_
    have q := bnd hm49
    obtain ⟨x50, h51, hm52⟩ := q
    refine OKS.r rfl rfl rfl rfl (fun _ => Runs.rem rfl rfl rfl h51) ?_
    refine OKS.ra rfl rfl rfl rfl rfl rfl ?_
    refine OKS.e ?_
    refine thenQ_n ?_
    refine CK.ret ?_
    cases hm52
    exact ⟨rfl, _, (res1 rfl), φ, _, hS37, pA0_0, pc0_0, rfl, rfl, ha0⟩

set_option maxHeartbeats 4000000 in
theorem w_klisterkit_Deck_Between (p0 : T_klisterkit_Deck) (pb0 : Nat) (pA0_0 : Option Addr) (pc0_0 : Nat) (p1 : Int) (p2 : Int) (w : World) (φ : PHeap) (hS : St ⟨w, [.blk pb0 194 [.slice pA0_0 p0.bytes.length pc0_0, .int .i64 p0.next, .int .u32 p0.state]], φ⟩ φ [.blk pb0 194 [.slice pA0_0 p0.bytes.length pc0_0, .int .i64 p0.next, .int .u32 p0.state]] w) (ha0 : Sl φ 1 pA0_0 pc0_0 p0.bytes.length (List.flatMap encB8 p0.bytes)) {r : Int × T_klisterkit_Deck} (hm : m_klisterkit_Deck_Between p0 p1 p2 = some r) : Gv Tryz.prog 41 [.pointer (some ⟨pb0, 0, none⟩), .int .i64 p1, .int .i64 p2] w (RetS w [.blk pb0 194 [.slice pA0_0 p0.bytes.length pc0_0, .int .i64 p0.next, .int .u32 p0.state]] φ (fun φ_ L_ v => ∃ (Ao00 : Option Addr) (co00 : Nat), v = .int .i64 r.1 ∧ L_ = [.blk pb0 194 [.slice Ao00 r.2.bytes.length co00, .int .i64 r.2.next, .int .u32 r.2.state]] ∧ Sl φ_ 1 Ao00 co00 r.2.bytes.length (List.flatMap encB8 r.2.bytes))) := by
 unfold m_klisterkit_Deck_Between at hm
 refine Gv.of Tryz.func41 rfl Tryz.ntmps41 Tryz.results41 rfl ?_
 refine CK.seq ?_
 refine CK.reg (ks := []) (.fl 0 (.nil)) rfl ?_
 refine OKS.ra rfl rfl rfl rfl rfl rfl ?_
 refine OKS.e ?_
 refine thenQ_n ?_
 refine CK.seq ?_
 refine CK.reg (ks := []) (.fl 0 (.fl 1 (.fl 2 (.fl 3 (.fl 4 (.fl 5 (.fx 6 (.fl 7 (.fl 8 (.nil))) .stop))))))) rfl ?_
 refine OKS.rm rfl rfl rfl rfl rfl rfl ?_
 refine OKS.rm rfl rfl rfl rfl rfl rfl ?_
 refine OKS.rm rfl rfl rfl rfl rfl rfl ?_
 refine OKS.rm rfl rfl rfl rfl rfl rfl ?_
 refine OKS.r rfl rfl rfl rfl (fun _ => Runs.subw rfl rfl rfl) ?_
 refine OKS.r rfl rfl rfl rfl (fun _ => Runs.addw rfl rfl rfl) ?_
 have q := bnd hm
 obtain ⟨⟨x2, x3⟩, h4, hm5⟩ := q
 try dsimp only at hm5
 refine OKS.callH 1 rfl rfl rfl rfl (Enters.mk rfl rfl Tryz.call40 (mapcons rfl (mapcons rfl mapnil)) rfl) hS (fun hs => w_klisterkit_Deck_Draw p0 pb0 pA0_0 pc0_0 (w64 ((w64 (p2 - p1)) + 1)) w φ hs ha0 h4) (.inl rfl) ?_
 rintro φ6 L7 v8 W9 le10 hS11 ⟨A12, c13, rfl, rfl, h14⟩
 have hS15 : St ⟨w, [.blk pb0 194 [.slice pA0_0 p0.bytes.length pc0_0, .int .i64 p0.next, .int .u32 p0.state]], φ⟩ φ6 [.blk pb0 194 [.slice A12 x3.bytes.length c13, .int .i64 x3.next, .int .u32 x3.state]] W9 := hS11
 refine OKS.r rfl rfl rfl rfl (fun _ => Runs.addw rfl rfl rfl) ?_
 refine OKS.ra rfl rfl rfl rfl rfl rfl ?_
 refine OKS.e ?_
 refine thenQ_n ?_
 refine CK.ret ?_
 cases hm5
 exact ⟨rfl, _, (res1 rfl), φ6, _, hS15, A12, c13, rfl, rfl, h14⟩

set_option maxHeartbeats 4000000 in
theorem w_klisterkit_Clone_target_Shot (p0 : List T_target_Shot) (pA0 : Option Addr) (pc0 : Nat) (w : World) (φ : PHeap) (hS : St ⟨w, [], φ⟩ φ [] w) (ha0 : Sl φ 2 pA0 pc0 p0.length (List.flatMap encT_target_Shot p0)) {r : (List T_target_Shot)} (hm : m_klisterkit_Clone_target_Shot p0 = some r) : Gv Tryz.prog 42 [.slice pA0 p0.length pc0] w (RetS w [] φ (fun φ_ L_ v => ∃ (A0 : Option Addr) (c0 : Nat), v = .slice A0 r.length c0 ∧ L_ = [.row A0 c0 83 2 (List.flatMap encT_target_Shot r)])) := by
 unfold m_klisterkit_Clone_target_Shot at hm
 refine Gv.of Tryz.func42 rfl Tryz.ntmps42 Tryz.results42 rfl ?_
 refine CK.seq ?_
 refine CK.reg (ks := []) (.fl 0 (.nil)) rfl ?_
 refine OKS.ra rfl rfl rfl rfl rfl rfl ?_
 refine OKS.e ?_
 refine thenQ_n ?_
 refine CK.seq ?_
 refine CK.reg (ks := []) (.fl 0 (.fx 1 (.fl 2 (.nil)) .stop)) rfl ?_
 refine OKS.rm rfl rfl rfl rfl rfl rfl ?_
 have hS1 := hS.nilrow 83 2
 have hS3 : St ⟨w, [], φ⟩ φ [.row none 0 83 2 (List.flatMap encT_target_Shot ([] : List T_target_Shot))] w := hS1
 have q := bnd hm
 obtain ⟨x4, h5, hm6⟩ := q
 refine OKS.append (j := 0) (enc := encT_target_Shot) (xs := ([] : List T_target_Shot)) (ys := p0) (zs := x4) rfl rfl rfl rfl rfl Tryz.underlying81 info83 rfl rfl rfl rfl rfl rfl hS3 rfl rfl rfl (hS3.srcS ha0) (fun _ => rfl) (fun _ => rfl) h5 rfl ?_
 intro A7 c8 W9 hS10
 have hS11 : St ⟨w, [], φ⟩ φ [.row A7 c8 83 2 (List.flatMap encT_target_Shot x4)] W9 := hS10
 refine OKS.ra rfl rfl rfl rfl rfl rfl ?_
 refine OKS.e ?_
 refine thenQ_n ?_
 refine CK.ret ?_
 have hE := Option.some.inj hm6; first | subst r | cases hE
 exact ⟨rfl, _, (res1 rfl), φ, _, hS11, A7, c8, rfl, rfl⟩

set_option maxHeartbeats 4000000 in
theorem w_target_all_target_Shot_1 (p0 : T_target_Shot) (p1 : (T_target_Shot → Option Bool)) (pb1 : Nat) (pv1 : Value) (w : World) (φ : PHeap) (hS : St ⟨w, [], φ⟩ φ [] w) (ha0 : Cl φ pb1 0 [pv1]) (ha1 : FnOK Tryz.prog φ pv1 ar239 rr239 p1) {r : Bool} (hm : m_target_all_target_Shot_1 p0 p1 = some r) : Gv Tryz.prog 217 [.agg #[.int .i64 p0.X, .int .i64 p0.Y], .pointer (some ⟨pb1, 0, none⟩)] w (RetS w [] φ (fun φ_ L_ v => v = .bool r ∧ L_ = [])) := by
 unfold m_target_all_target_Shot_1 at hm
 refine Gv.of Tryz.func217 rfl Tryz.ntmps217 Tryz.results217 rfl ?_
 refine CK.seq ?_
 refine CK.reg (ks := []) (.fx 0 (.fl 1 (.nil)) .stop) rfl ?_
 refine OKS.box (cs := [.int .i64 p0.X, .int .i64 p0.Y]) rfl rfl rfl rfl rfl rfl (by rfl) hS ?_
 intro W1 b2 hS3
 refine OKS.ra rfl rfl rfl rfl rfl rfl ?_
 refine OKS.e ?_
 refine thenQ_n ?_
 refine CK.seq ?_
 refine CK.reg (ks := []) (.fl 0 (.fl 1 (.fx 2 (.fl 3 (.fl 4 (.nil))) .stop))) rfl ?_
 refine OKS.m rfl rfl rfl rfl (hS3.ldC (f := 0) ha0 (v := pv1) rfl rfl Tryz.isAgg239 rfl) rfl ?_
 refine OKS.m rfl rfl rfl rfl (hS3.ldBA (j := 0) rfl rfl rfl Tryz.isAgg83 Tryz.sizeOf83 (vs := [.int .i64 p0.X, .int .i64 p0.Y]) rfl rfl) rfl ?_
 have q := bnd hm
 obtain ⟨x5, h6, hm7⟩ := q
 refine OKS.callV (a := p0) rfl rfl rfl rfl rfl rfl (mapcons rfl mapnil) hS3 ha1 rfl h6 ?_
 rintro φ8 L9 v10 W11 le12 hS13 ⟨rfl, rfl⟩
 have hS14 : St ⟨w, [], φ⟩ φ8 [.blk b2 83 [.int .i64 p0.X, .int .i64 p0.Y]] W11 := hS13
 refine OKS.r rfl rfl rfl rfl (fun _ => Runs.notT rfl rfl) ?_
 refine OKS.ra rfl rfl rfl rfl rfl rfl ?_
 refine OKS.e ?_
 refine thenQ_n ?_
 refine CK.ret ?_
 cases hm7
 exact ⟨rfl, _, (res1 rfl), φ8, _, (hS14.pick [] _ (by decide) rfl), rfl, rfl⟩

set_option maxHeartbeats 4000000 in
theorem w_slices_IndexFunc_target_Shot_target_Shot (p0 : List T_target_Shot) (pA0 : Option Addr) (pc0 : Nat) (p1 : (T_target_Shot → Option Bool)) (pv1 : Value) (w : World) (φ : PHeap) (hS : St ⟨w, [], φ⟩ φ [] w) (ha0 : Sl φ 2 pA0 pc0 p0.length (List.flatMap encT_target_Shot p0)) (ha1 : FnOK Tryz.prog φ pv1 ar239 rr239 p1) {r : Int} (hm : m_slices_IndexFunc_target_Shot_target_Shot p0 p1 = some r) : Gv Tryz.prog 272 [.slice pA0 p0.length pc0, pv1] w (RetS w [] φ (fun φ_ L_ v => v = .int .i64 r ∧ L_ = [])) := by
 unfold m_slices_IndexFunc_target_Shot_target_Shot at hm
 refine Gv.of Tryz.func272 rfl Tryz.ntmps272 Tryz.results272 rfl ?_
 refine CK.seq ?_
 refine CK.reg (ks := []) (.fl 0 (.nil)) rfl ?_
 refine OKS.ra rfl rfl rfl rfl rfl rfl ?_
 refine OKS.e ?_
 refine thenQ_n ?_
 refine CK.seq ?_
 refine CK.seq ?_
 refine CK.reg (ks := []) (.fl 0 (.fl 1 (.fl 2 (.nil)))) rfl ?_
 refine OKS.rm rfl rfl rfl rfl rfl rfl ?_
 refine OKS.r rfl rfl rfl rfl (fun _ => Runs.len rfl rfl Tryz.runUnderlying81) ?_
 refine OKS.rm rfl rfl rfl rfl rfl rfl ?_
 refine OKS.e ?_
 refine thenQ_n ?_
 refine CK.block ?_
 have q := jn_some hm
 obtain ⟨r3, hX4⟩ := q
 have q := forR_le hX4
 obtain ⟨hle5, hf6⟩ := q
 replace hle5 := Hid.mk hle5
 refine CK.forN (fun k2 _ σ_ w_ => ∃ (φ_ : PHeap), σ_ 8 = .int .i64 (↑k2 : Int) ∧ σ_ 0 = .slice pA0 p0.length pc0 ∧ σ_ 1 = pv1 ∧ σ_ 7 = .int .i64 (↑p0.length : Int) ∧ PHeap.Le φ φ_ ∧ St ⟨w, [], φ⟩ φ_ [] w_) hf6 ?_ ?_ ?_
 ·exact ⟨φ, rfl, rfl, rfl, rfl, (PHeap.Le.refl _), hS⟩
 ·rintro k2 ⟨⟩ xx9 σ7 W8 hk12 ⟨φ14, fi13, f17, f18, f19, le15, hS16⟩ hx10 hb11
  try dsimp only at hx10
  have c20 : Hid ((↑k2 : Int) < (↑p0.length : Int)) := Hid.mk (lp_lt0 hk12)
  replace hk12 := Hid.mk hk12
  have hi21 : Hid (w64 ((↑k2 : Int) + 1) = (↑(k2 + 1) : Int)) := Hid.mk (by have h1 := hle5.out; have h2 := c20.out; rw [w64_in] <;> omega)
  refine CK.seq ?_
  refine CK.reg (ks := []) (.fl 0 (.nil)) rfl ?_
  refine OKS.r rfl rfl rfl rfl (fun _ => Runs.lss rfl fi13 f19) ?_
  refine OKS.e ?_
  refine thenQ_n ?_
  refine CK.seq ?_
  refine CK.condT (decT c20.out) ?_
  refine CK.skip ?_
  refine thenQ_n ?_
  refine CK.seq ?_
  refine CK.block ?_
  refine CK.seq ?_
  refine CK.reg (ks := []) (.fl 0 (.fl 1 (.nil))) rfl ?_
  refine OKS.rm rfl rfl rfl rfl rfl fi13 ?_
  refine OKS.ra rfl rfl rfl rfl rfl rfl ?_
  refine OKS.e ?_
  refine thenQ_n ?_
  refine CK.seq ?_
  refine CK.reg (ks := []) (.fl 0 (.fl 1 (.fl 2 (.fl 3 (.fl 4 (.fx 5 (.nil) .stop)))))) rfl ?_
  refine OKS.rm rfl rfl rfl rfl rfl f18 ?_
  refine OKS.rm rfl rfl rfl rfl rfl f17 ?_
  refine OKS.rm rfl rfl rfl rfl rfl rfl ?_
  have q := bnd hx10
  obtain ⟨x22, h23, hm24⟩ := q
  have h25 := ha0.le le15
  have q := h25.el (fun _ => rfl) (idx_get h23)
  obtain ⟨b26, off27, hA28, hC29⟩ := q
  refine OKS.r rfl rfl rfl rfl (fun _ => Runs.iaN rfl rfl hA28 rfl Tryz.runUnderlying81 Tryz.sizeOf83 (idx_lt h23)) ?_
  refine OKS.m rfl rfl rfl rfl (hS16.ldCA (f := 0) hC29 rfl rfl Tryz.isAgg83 Tryz.sizeOf83 (us := [.int .i64 x22.X, .int .i64 x22.Y]) rfl rfl) rfl ?_
  have q := bnd hm24
  obtain ⟨x30, h31, hm32⟩ := q
  have h39 := ha1.le le15
  refine OKS.callV (a := x22) rfl rfl rfl rfl rfl rfl (mapcons rfl mapnil) hS16 h39 rfl h31 ?_
  rintro φ33 L34 v35 W36 le37 hS38 ⟨rfl, rfl⟩
  have hS40 : St ⟨w, [], φ⟩ φ33 [] W36 := hS38
  refine OKS.e ?_
  refine thenQ_n ?_
  by_cases c41 : x30 = true
  ·have hm42 := hm32; rw [if_pos c41] at hm42; replace c41 := Hid.mk c41
   refine CK.condT (congrArg Value.bool c41.out) ?_
   refine CK.seq ?_
   refine CK.reg (ks := []) (.fl 0 (.fl 1 (.nil))) rfl ?_
   refine OKS.rm rfl rfl rfl rfl rfl rfl ?_
   refine OKS.ra rfl rfl rfl rfl rfl rfl ?_
   refine OKS.e ?_
   refine thenQ_n ?_
   refine CK.ret ?_
   refine blockQ_r ?_
   refine thenQ_r ?_
   have q := esc_spec hm42
   obtain ⟨v43, hm44, e45⟩ := q
   obtain rfl := jn_inr hm hX4 (hb11 v43 e45)
   refine thenQ_r ?_
   refine blockQ_r ?_
   refine thenQ_r ?_
   cases hm44
   exact ⟨rfl, _, (res1 rfl), φ33, _, hS40, rfl, rfl⟩
  ·have hm46 := hm32; rw [if_neg c41] at hm46; replace c41 := Hid.mk c41
   refine CK.condF (congrArg Value.bool (Bool.eq_false_iff.2 c41.out)) ?_
   refine CK.skip ?_
   refine blockQ_n ?_
   refine thenQ_n ?_
   refine CK.reg (ks := []) (.fl 0 (.fl 1 (.nil))) rfl ?_
   refine OKS.r rfl rfl rfl rfl (fun _ => Runs.to (Runs.addw rfl fi13 rfl) (congrArg (Value.int .i64) hi21.out)) ?_
   refine OKS.rm rfl rfl rfl rfl rfl rfl ?_
   refine OKS.e ?_
   obtain rfl := Option.some.inj hm46
   exact thenQ_n ⟨rfl, _, rfl, ⟨φ33, rfl, f17, f18, f19, (le15.trans le37), hS40⟩⟩
 ·rintro ⟨⟩ σ47 W48 ⟨φ51, fi50, f54, f55, f56, le52, hS53⟩ hb49
  have hm57 := jn_inl hm hX4 hb49
  try dsimp only at hm57
  have c58 : Hid (¬ ((↑(((↑p0.length : Int) : Int) - 0).toNat : Int) < (↑p0.length : Int))) := Hid.mk (lp_end0)
  refine CK.seq ?_
  refine CK.reg (ks := []) (.fl 0 (.nil)) rfl ?_
  refine OKS.r rfl rfl rfl rfl (fun _ => Runs.lss rfl fi50 f56) ?_
  refine OKS.e ?_
  refine thenQ_n ?_
  refine CK.seq ?_
  refine CK.condF (decF c58.out) ?_
  refine CK.exit ?_
  refine thenQ_e ?_
  refine thenQ_e ?_
  refine blockQ_h ?_
  refine thenQ_n ?_
  refine CK.seq ?_
  refine CK.reg (ks := []) (.fl 0 (.nil)) rfl ?_
  refine OKS.ra rfl rfl rfl rfl rfl rfl ?_
  refine OKS.e ?_
  refine thenQ_n ?_
  refine CK.ret ?_
  cases hm57
  exact ⟨rfl, _, (res1 rfl), φ51, _, hS53, rfl, rfl⟩

set_option maxHeartbeats 4000000 in
theorem w_slices_ContainsFunc_target_Shot_target_Shot (p0 : List T_target_Shot) (pA0 : Option Addr) (pc0 : Nat) (p1 : (T_target_Shot → Option Bool)) (pv1 : Value) (w : World) (φ : PHeap) (hS : St ⟨w, [], φ⟩ φ [] w) (ha0 : Sl φ 2 pA0 pc0 p0.length (List.flatMap encT_target_Shot p0)) (ha1 : FnOK Tryz.prog φ pv1 ar239 rr239 p1) {r : Bool} (hm : m_slices_ContainsFunc_target_Shot_target_Shot p0 p1 = some r) : Gv Tryz.prog 216 [.slice pA0 p0.length pc0, pv1] w (RetS w [] φ (fun φ_ L_ v => v = .bool r ∧ L_ = [])) := by
 unfold m_slices_ContainsFunc_target_Shot_target_Shot at hm
 refine Gv.of Tryz.func216 rfl Tryz.ntmps216 Tryz.results216 rfl ?_
 refine CK.seq ?_
 refine CK.reg (ks := []) (.fl 0 (.nil)) rfl ?_
 refine OKS.ra rfl rfl rfl rfl rfl rfl ?_
 refine OKS.e ?_
 refine thenQ_n ?_
 refine CK.seq ?_
 refine CK.reg (ks := []) (.fl 0 (.fl 1 (.fx 2 (.fl 3 (.fl 4 (.nil))) .stop))) rfl ?_
 refine OKS.rm rfl rfl rfl rfl rfl rfl ?_
 refine OKS.rm rfl rfl rfl rfl rfl rfl ?_
 have q := bnd hm
 obtain ⟨x1, h2, hm3⟩ := q
 refine OKS.callH 0 rfl rfl rfl rfl (Enters.mk rfl rfl Tryz.call272 (mapcons rfl (mapcons rfl mapnil)) rfl) hS (fun hs => w_slices_IndexFunc_target_Shot_target_Shot p0 pA0 pc0 p1 pv1 w φ hs ha0 ha1 h2) (.inr rfl) ?_
 rintro φ4 L5 v6 W7 le8 hS9 ⟨rfl, rfl⟩
 have hS10 : St ⟨w, [], φ⟩ φ4 [] W7 := hS9
 refine OKS.r rfl rfl rfl rfl (fun _ => Runs.geq rfl rfl rfl) ?_
 refine OKS.ra rfl rfl rfl rfl rfl rfl ?_
 refine OKS.e ?_
 refine thenQ_n ?_
 refine CK.ret ?_
 cases hm3
 exact ⟨rfl, _, (res1 rfl), φ4, _, hS10, rfl, rfl⟩

set_option maxHeartbeats 4000000 in
theorem w_target_all_target_Shot (p0 : List T_target_Shot) (pA0 : Option Addr) (pc0 : Nat) (p1 : (T_target_Shot → Option Bool)) (pv1 : Value) (w : World) (φ : PHeap) (hS : St ⟨w, [], φ⟩ φ [] w) (ha0 : Sl φ 2 pA0 pc0 p0.length (List.flatMap encT_target_Shot p0)) (ha1 : FnOK Tryz.prog φ pv1 ar239 rr239 p1) {r : Bool} (hm : m_target_all_target_Shot p0 p1 = some r) : Gv Tryz.prog 146 [.slice pA0 p0.length pc0, pv1] w (RetS w [] φ (fun φ_ L_ v => v = .bool r ∧ L_ = [])) := by
 unfold m_target_all_target_Shot at hm
 refine Gv.of Tryz.func146 rfl Tryz.ntmps146 Tryz.results146 rfl ?_
 refine CK.seq ?_
 refine CK.reg (ks := []) (.fx 0 (.fl 1 (.nil)) .stop) rfl ?_
 refine OKS.box (cs := [pv1]) rfl rfl rfl rfl rfl rfl (FnOK.cells ha1) hS ?_
 intro W1 b2 hS3
 have q := hS3.freeze (k := 0) rfl
 obtain ⟨φ5, le6, hC7, hS8⟩ := q
 replace hC7 := Cl.of hC7
 have hS9 : St ⟨w, [], φ⟩ φ5 [] W1 := hS8
 replace hC7 : Cl φ5 b2 0 [pv1] := hC7
 refine OKS.ra rfl rfl rfl rfl rfl rfl ?_
 refine OKS.e ?_
 refine thenQ_n ?_
 refine CK.seq ?_
 refine CK.reg (ks := []) (.fl 0 (.fl 1 (.fx 2 (.fl 3 (.fl 4 (.nil))) .stop))) rfl ?_
 refine OKS.rm rfl rfl rfl rfl rfl rfl ?_
 refine OKS.r rfl rfl rfl rfl (fun _ => Runs.mkf rfl mapnil (mapcons rfl mapnil)) ?_
 have h10 := ha0.le le6
 have h11 := ha1.le le6
 have hF12 : FnOK Tryz.prog φ5 (.func (.func 217) #[] #[.pointer (some ⟨b2, 0, none⟩)]) ar239 rr239 (fun x => m_target_all_target_Shot_1 x p1) := ⟨217, [], [.pointer (some ⟨b2, 0, none⟩)], rfl, Tryz.call217, fun φ1 w1 x y vs le hs ha hm => by obtain rfl := ha; exact w_target_all_target_Shot_1 x p1 b2 pv1 w1 φ1 hs (hC7.le le) (h11.le le) hm⟩
 have q := bnd hm
 obtain ⟨x13, h14, hm15⟩ := q
 refine OKS.callH 0 rfl rfl rfl rfl (Enters.mk rfl rfl Tryz.call216 (mapcons rfl (mapcons rfl mapnil)) rfl) hS9 (fun hs => w_slices_ContainsFunc_target_Shot_target_Shot p0 pA0 pc0 (fun x => m_target_all_target_Shot_1 x p1) (.func (.func 217) #[] #[.pointer (some ⟨b2, 0, none⟩)]) W1 φ5 hs h10 hF12 h14) (.inr rfl) ?_
 rintro φ16 L17 v18 W19 le20 hS21 ⟨rfl, rfl⟩
 have hS22 : St ⟨w, [], φ⟩ φ16 [] W19 := hS21
 refine OKS.r rfl rfl rfl rfl (fun _ => Runs.notT rfl rfl) ?_
 refine OKS.ra rfl rfl rfl rfl rfl rfl ?_
 refine OKS.e ?_
 refine thenQ_n ?_
 refine CK.ret ?_
 cases hm15
 exact ⟨rfl, _, (res1 rfl), φ16, _, hS22, rfl, rfl⟩

set_option maxHeartbeats 4000000 in
theorem w_target_within (p0 : Int) (p1 : Int) (p2 : Int) (w : World) (φ : PHeap) (hS : St ⟨w, [], φ⟩ φ [] w)  {r : Bool} (hm : m_target_within p0 p1 p2 = some r) : Gv Tryz.prog 148 [.int .i64 p0, .int .i64 p1, .int .i64 p2] w (RetS w [] φ (fun φ_ L_ v => v = .bool r ∧ L_ = [])) := by
 unfold m_target_within at hm
 refine Gv.of Tryz.func148 rfl Tryz.ntmps148 Tryz.results148 rfl ?_
 refine CK.seq ?_
 refine CK.reg (ks := []) (.fl 0 (.nil)) rfl ?_
 refine OKS.ra rfl rfl rfl rfl rfl rfl ?_
 refine OKS.e ?_
 refine thenQ_n ?_
 refine CK.seq ?_
 refine CK.reg (ks := []) (.fl 0 (.fl 1 (.fl 2 (.fl 3 (.fl 4 (.fl 5 (.fl 6 (.fl 7 (.fl 8 (.nil)))))))))) rfl ?_
 refine OKS.rm rfl rfl rfl rfl rfl rfl ?_
 refine OKS.rm rfl rfl rfl rfl rfl rfl ?_
 refine OKS.r rfl rfl rfl rfl (fun _ => Runs.geq rfl rfl rfl) ?_
 refine OKS.rm rfl rfl rfl rfl rfl rfl ?_
 by_cases c1 : p1 ≤ p0
 ·have hm2 := hm; rw [if_pos c1] at hm2; replace c1 := Hid.mk c1
  refine OKS.rm rfl rfl rfl (wantedY rfl rfl (decT c1.out)) rfl rfl ?_
  refine OKS.rm rfl rfl rfl (wantedY rfl rfl (decT c1.out)) rfl rfl ?_
  refine OKS.r rfl rfl rfl (wantedY rfl rfl (decT c1.out)) (fun _ => Runs.leq rfl rfl rfl) ?_
  refine OKS.r rfl rfl rfl rfl (fun _ => Runs.pickT rfl (decT c1.out) rfl) ?_
  refine OKS.ra rfl rfl rfl rfl rfl rfl ?_
  refine OKS.e ?_
  refine thenQ_n ?_
  refine CK.ret ?_
  cases hm2
  exact ⟨rfl, _, (res1 rfl), φ, _, hS, rfl, rfl⟩
 ·have hm3 := hm; rw [if_neg c1] at hm3; replace c1 := Hid.mk c1
  refine OKS.p rfl rfl rfl (wantedN rfl rfl (decF c1.out) rfl) ?_
  refine OKS.p rfl rfl rfl (wantedN rfl rfl (decF c1.out) rfl) ?_
  refine OKS.p rfl rfl rfl (wantedN rfl rfl (decF c1.out) rfl) ?_
  refine OKS.r rfl rfl rfl rfl (fun _ => Runs.pickF rfl (decF c1.out) rfl) ?_
  refine OKS.ra rfl rfl rfl rfl rfl rfl ?_
  refine OKS.e ?_
  refine thenQ_n ?_
  refine CK.ret ?_
  have hE := Option.some.inj hm3; first | subst r | cases hE
  exact ⟨rfl, _, (res1 rfl), φ, _, hS, rfl, rfl⟩

set_option maxHeartbeats 4000000 in
theorem w_target_Falls_1 (p0 : T_target_Shot) (w : World) (φ : PHeap) (hS : St ⟨w, [], φ⟩ φ [] w)  {r : Bool} (hm : m_target_Falls_1 p0 = some r) : Gv Tryz.prog 147 [.agg #[.int .i64 p0.X, .int .i64 p0.Y]] w (RetS w [] φ (fun φ_ L_ v => v = .bool r ∧ L_ = [])) := by
 unfold m_target_Falls_1 at hm
 refine Gv.of Tryz.func147 rfl Tryz.ntmps147 Tryz.results147 rfl ?_
 refine CK.seq ?_
 refine CK.reg (ks := []) (.fx 0 (.fl 1 (.nil)) .stop) rfl ?_
 refine OKS.box (cs := [.int .i64 p0.X, .int .i64 p0.Y]) rfl rfl rfl rfl rfl rfl (by rfl) hS ?_
 intro W1 b2 hS3
 refine OKS.ra rfl rfl rfl rfl rfl rfl ?_
 refine OKS.e ?_
 refine thenQ_n ?_
 refine CK.seq ?_
 refine CK.reg (ks := []) (.fl 0 (.fl 1 (.fx 2 (.fl 3 (.fl 4 (.fl 5 (.fx 6 (.fl 7 (.fl 8 (.nil))) .stop)))) .stop))) rfl ?_
 refine OKS.r rfl rfl rfl rfl (fun _ => Runs.fa rfl rfl Tryz.runUnderlying83 rfl Tryz.sizeOf3) ?_
 refine OKS.m rfl rfl rfl rfl (hS3.ldB (j := 0) rfl rfl rfl Tryz.isAgg3 (v := .int .i64 p0.X) rfl) rfl ?_
 have q := bnd hm
 obtain ⟨x5, h6, hm7⟩ := q
 refine OKS.callH 0 rfl rfl rfl rfl (Enters.mk rfl rfl Tryz.call148 (mapcons rfl (mapcons rfl (mapcons rfl mapnil))) rfl) hS3 (fun hs => w_target_within p0.X (-20000) 20000 W1 φ hs h6) (.inr rfl) ?_
 rintro φ8 L9 v10 W11 le12 hS13 ⟨rfl, rfl⟩
 have hS14 : St ⟨w, [], φ⟩ φ8 [.blk b2 83 [.int .i64 p0.X, .int .i64 p0.Y]] W11 := hS13
 refine OKS.rm rfl rfl rfl rfl rfl rfl ?_
 by_cases c15 : x5 = true
 ·have hm16 := hm7; rw [if_pos c15] at hm16; replace c15 := Hid.mk c15
  refine OKS.r rfl rfl rfl (wantedY rfl rfl (congrArg Value.bool c15.out)) (fun _ => Runs.fa rfl rfl Tryz.runUnderlying83 rfl Tryz.sizeOf3) ?_
  refine OKS.m rfl rfl rfl (wantedY rfl rfl (congrArg Value.bool c15.out)) (hS14.ldB (j := 0) rfl rfl rfl Tryz.isAgg3 (v := .int .i64 p0.Y) rfl) rfl ?_
  have q := bnd hm16
  obtain ⟨x17, h18, hm19⟩ := q
  refine OKS.callH 0 rfl rfl rfl (wantedY rfl rfl (congrArg Value.bool c15.out)) (Enters.mk rfl rfl Tryz.call148 (mapcons rfl (mapcons rfl (mapcons rfl mapnil))) rfl) hS14 (fun hs => w_target_within p0.Y (-20000) 20000 W11 φ8 hs h18) (.inr rfl) ?_
  rintro φ20 L21 v22 W23 le24 hS25 ⟨rfl, rfl⟩
  have hS26 : St ⟨w, [], φ⟩ φ20 [.blk b2 83 [.int .i64 p0.X, .int .i64 p0.Y]] W23 := hS25
  refine OKS.r rfl rfl rfl rfl (fun _ => Runs.pickT rfl (congrArg Value.bool c15.out) rfl) ?_
  refine OKS.ra rfl rfl rfl rfl rfl rfl ?_
  refine OKS.e ?_
  refine thenQ_n ?_
  refine CK.ret ?_
  have hE := Option.some.inj hm19; first | subst r | cases hE
  exact ⟨rfl, _, (res1 rfl), φ20, _, (hS26.pick [] _ (by decide) rfl), rfl, rfl⟩
 ·have hm27 := hm7; rw [if_neg c15] at hm27; replace c15 := Hid.mk c15
  refine OKS.p rfl rfl rfl (wantedN rfl rfl (congrArg Value.bool (Bool.eq_false_iff.2 c15.out)) rfl) ?_
  refine OKS.p rfl rfl rfl (wantedN rfl rfl (congrArg Value.bool (Bool.eq_false_iff.2 c15.out)) rfl) ?_
  refine OKS.px rfl rfl rfl (wantedN rfl rfl (congrArg Value.bool (Bool.eq_false_iff.2 c15.out)) rfl) ?_
  refine OKS.r rfl rfl rfl rfl (fun _ => Runs.pickF rfl (congrArg Value.bool (Bool.eq_false_iff.2 c15.out)) rfl) ?_
  refine OKS.ra rfl rfl rfl rfl rfl rfl ?_
  refine OKS.e ?_
  refine thenQ_n ?_
  refine CK.ret ?_
  have hE := Option.some.inj hm27; first | subst r | cases hE
  exact ⟨rfl, _, (res1 rfl), φ8, _, (hS14.pick [] _ (by decide) rfl), rfl, rfl⟩

set_option maxHeartbeats 4000000 in
theorem w_target_Falls (p0 : Int) (p1 : List T_target_Shot) (pA1 : Option Addr) (pc1 : Nat) (w : World) (φ : PHeap) (hS : St ⟨w, [], φ⟩ φ [] w) (ha0 : Sl φ 2 pA1 pc1 p1.length (List.flatMap encT_target_Shot p1)) {r : (List Int) × Int} (hm : m_target_Falls p0 p1 = some r) : Gv Tryz.prog 43 [.int .i64 p0, .slice pA1 p1.length pc1] w (RetS w [] φ (fun φ_ L_ v => ∃ (A0 : Option Addr) (c0 : Nat), v = .tuple #[.slice A0 r.1.length c0, .int .i64 r.2] ∧ L_ = [.row A0 c0 3 1 (List.flatMap encI r.1)])) := by
 unfold m_target_Falls at hm
 refine Gv.of Tryz.func43 rfl Tryz.ntmps43 Tryz.results43 rfl ?_
 refine CK.seq ?_
 refine CK.reg (ks := []) (.fl 0 (.fl 1 (.nil))) rfl ?_
 refine OKS.ra rfl rfl rfl rfl rfl rfl ?_
 refine OKS.ra rfl rfl rfl rfl rfl rfl ?_
 refine OKS.e ?_
 refine thenQ_n ?_
 have q := jn_some hm
 obtain ⟨r1, hx2⟩ := q
 refine CK.cut (fun σ_ w_ => r1 = .inl () ∧ ∃ (φ_ : PHeap), σ_ 0 = .int .i64 p0 ∧ σ_ 1 = .slice pA1 p1.length pc1 ∧ PHeap.Le φ φ_ ∧ St ⟨w, [], φ⟩ φ_ [] w_) ?_ ?_
 ·refine CK.block ?_
  refine CK.seq ?_
  refine CK.reg (ks := []) (.fl 0 (.fl 1 (.fl 2 (.fl 3 (.fl 4 (.fl 5 (.fl 6 (.nil)))))))) rfl ?_
  refine OKS.rm rfl rfl rfl rfl rfl rfl ?_
  refine OKS.r rfl rfl rfl rfl (fun _ => Runs.neq rfl rfl rfl) ?_
  refine OKS.rm rfl rfl rfl rfl rfl rfl ?_
  by_cases c3 : p0 = 0
  ·have hm4 := hx2; rw [if_pos c3] at hm4; replace c3 := Hid.mk c3
   refine OKS.p rfl rfl rfl (wantedN rfl rfl (decF (fun h => h c3.out)) rfl) ?_
   refine OKS.p rfl rfl rfl (wantedN rfl rfl (decF (fun h => h c3.out)) rfl) ?_
   refine OKS.r rfl rfl rfl rfl (fun _ => Runs.pickF rfl (decF (fun h => h c3.out)) rfl) ?_
   refine OKS.ra rfl rfl rfl rfl rfl rfl ?_
   refine OKS.e ?_
   refine thenQ_n ?_
   refine CK.condF rfl ?_
   refine CK.seq ?_
   refine CK.reg (ks := []) (.fl 0 (.fl 1 (.fl 2 (.fl 3 (.nil))))) rfl ?_
   refine OKS.rm rfl rfl rfl rfl rfl rfl ?_
   refine OKS.r rfl rfl rfl rfl (fun _ => Runs.len rfl rfl Tryz.runUnderlying81) ?_
   refine OKS.r rfl rfl rfl rfl (fun _ => Runs.gtr rfl rfl rfl) ?_
   refine OKS.ra rfl rfl rfl rfl rfl rfl ?_
   refine OKS.e ?_
   refine thenQ_n ?_
   by_cases c5 : 8 < (↑p1.length : Int)
   ·have hm6 := hm4; rw [if_pos c5] at hm6; replace c5 := Hid.mk c5
    refine CK.condT (decT c5.out) ?_
    refine CK.seq ?_
    refine CK.reg (ks := []) (.fl 0 (.fl 1 (.nil))) rfl ?_
    refine OKS.ra rfl rfl rfl rfl rfl rfl ?_
    refine OKS.ra rfl rfl rfl rfl rfl rfl ?_
    refine OKS.e ?_
    refine thenQ_n ?_
    refine CK.ret ?_
    refine blockQ_r ?_
    have q := esc_spec hm6
    obtain ⟨v7, hm8, e9⟩ := q
    obtain rfl := jn_inr hm hx2 e9
    refine thenQ_r ?_
    have hS10 := hS.nilrow 3 1
    cases hm8
    exact ⟨rfl, _, (res2 rfl rfl), φ, _, hS10, none, 0, rfl, rfl⟩
   ·have hm12 := hm4; rw [if_neg c5] at hm12; replace c5 := Hid.mk c5
    refine CK.condF (decF c5.out) ?_
    refine CK.seq ?_
    refine CK.reg (ks := []) (.fl 0 (.fx 1 (.fl 2 (.fl 3 (.nil))) .stop)) rfl ?_
    refine OKS.rm rfl rfl rfl rfl rfl rfl ?_
    have hF13 : FnOK Tryz.prog φ (.func (.func 147) #[] #[]) ar239 rr239 m_target_Falls_1 := ⟨147, [], [], rfl, Tryz.call147, fun φ1 w1 x y vs le hs ha hm => by obtain rfl := ha; exact w_target_Falls_1 x w1 φ1 hs  hm⟩
    have q := bnd hm12
    obtain ⟨x14, h15, hm16⟩ := q
    refine OKS.callH 0 rfl rfl rfl rfl (Enters.mk rfl rfl Tryz.call146 (mapcons rfl (mapcons rfl mapnil)) rfl) hS (fun hs => w_target_all_target_Shot p1 pA1 pc1 m_target_Falls_1 (.func (.func 147) #[] #[]) w φ hs ha0 hF13 h15) (.inr rfl) ?_
    rintro φ17 L18 v19 W20 le21 hS22 ⟨rfl, rfl⟩
    have hS23 : St ⟨w, [], φ⟩ φ17 [] W20 := hS22
    refine OKS.r rfl rfl rfl rfl (fun _ => Runs.notT rfl rfl) ?_
    refine OKS.ra rfl rfl rfl rfl rfl rfl ?_
    refine OKS.e ?_
    refine thenQ_n ?_
    by_cases c24 : x14 = true
    ·have hm25 := hm16; rw [if_pos c24] at hm25; replace c24 := Hid.mk c24
     refine CK.condF (congrArg (fun b => Value.bool (!b)) c24.out) ?_
     refine CK.skip ?_
     refine blockQ_n ?_
     exact thenQ_n ⟨rfl, (Option.some.inj hm25).symm, ⟨φ17, rfl, rfl, le21, hS23⟩⟩
    ·have hm26 := hm16; rw [if_neg c24] at hm26; replace c24 := Hid.mk c24
     refine CK.condT (congrArg (fun b => Value.bool (!b)) (Bool.eq_false_iff.2 c24.out)) ?_
     refine CK.seq ?_
     refine CK.reg (ks := []) (.fl 0 (.fl 1 (.nil))) rfl ?_
     refine OKS.ra rfl rfl rfl rfl rfl rfl ?_
     refine OKS.ra rfl rfl rfl rfl rfl rfl ?_
     refine OKS.e ?_
     refine thenQ_n ?_
     refine CK.ret ?_
     refine blockQ_r ?_
     have q := esc_spec hm26
     obtain ⟨v27, hm28, e29⟩ := q
     obtain rfl := jn_inr hm hx2 e29
     refine thenQ_r ?_
     have hS30 := hS23.nilrow 3 1
     cases hm28
     exact ⟨rfl, _, (res2 rfl rfl), φ17, _, hS30, none, 0, rfl, rfl⟩
  ·have hm32 := hx2; rw [if_neg c3] at hm32; replace c3 := Hid.mk c3
   refine OKS.rm rfl rfl rfl (wantedY rfl rfl (decT c3.out)) rfl rfl ?_
   refine OKS.r rfl rfl rfl (wantedY rfl rfl (decT c3.out)) (fun _ => Runs.neq rfl rfl rfl) ?_
   refine OKS.r rfl rfl rfl rfl (fun _ => Runs.pickT rfl (decT c3.out) rfl) ?_
   refine OKS.ra rfl rfl rfl rfl rfl rfl ?_
   refine OKS.e ?_
   refine thenQ_n ?_
   by_cases c33 : p0 = 1
   ·have hm34 := hm32; rw [if_pos c33] at hm34; replace c33 := Hid.mk c33
    refine CK.condF (decF (fun h => h c33.out)) ?_
    refine CK.seq ?_
    refine CK.reg (ks := []) (.fl 0 (.fl 1 (.fl 2 (.fl 3 (.nil))))) rfl ?_
    refine OKS.rm rfl rfl rfl rfl rfl rfl ?_
    refine OKS.r rfl rfl rfl rfl (fun _ => Runs.len rfl rfl Tryz.runUnderlying81) ?_
    refine OKS.r rfl rfl rfl rfl (fun _ => Runs.gtr rfl rfl rfl) ?_
    refine OKS.ra rfl rfl rfl rfl rfl rfl ?_
    refine OKS.e ?_
    refine thenQ_n ?_
    by_cases c35 : 8 < (↑p1.length : Int)
    ·have hm36 := hm34; rw [if_pos c35] at hm36; replace c35 := Hid.mk c35
     refine CK.condT (decT c35.out) ?_
     refine CK.seq ?_
     refine CK.reg (ks := []) (.fl 0 (.fl 1 (.nil))) rfl ?_
     refine OKS.ra rfl rfl rfl rfl rfl rfl ?_
     refine OKS.ra rfl rfl rfl rfl rfl rfl ?_
     refine OKS.e ?_
     refine thenQ_n ?_
     refine CK.ret ?_
     refine blockQ_r ?_
     have q := esc_spec hm36
     obtain ⟨v37, hm38, e39⟩ := q
     obtain rfl := jn_inr hm hx2 e39
     refine thenQ_r ?_
     have hS40 := hS.nilrow 3 1
     cases hm38
     exact ⟨rfl, _, (res2 rfl rfl), φ, _, hS40, none, 0, rfl, rfl⟩
    ·have hm42 := hm34; rw [if_neg c35] at hm42; replace c35 := Hid.mk c35
     refine CK.condF (decF c35.out) ?_
     refine CK.seq ?_
     refine CK.reg (ks := []) (.fl 0 (.fx 1 (.fl 2 (.fl 3 (.nil))) .stop)) rfl ?_
     refine OKS.rm rfl rfl rfl rfl rfl rfl ?_
     have hF43 : FnOK Tryz.prog φ (.func (.func 147) #[] #[]) ar239 rr239 m_target_Falls_1 := ⟨147, [], [], rfl, Tryz.call147, fun φ1 w1 x y vs le hs ha hm => by obtain rfl := ha; exact w_target_Falls_1 x w1 φ1 hs  hm⟩
     have q := bnd hm42
     obtain ⟨x44, h45, hm46⟩ := q
     refine OKS.callH 0 rfl rfl rfl rfl (Enters.mk rfl rfl Tryz.call146 (mapcons rfl (mapcons rfl mapnil)) rfl) hS (fun hs => w_target_all_target_Shot p1 pA1 pc1 m_target_Falls_1 (.func (.func 147) #[] #[]) w φ hs ha0 hF43 h45) (.inr rfl) ?_
     rintro φ47 L48 v49 W50 le51 hS52 ⟨rfl, rfl⟩
     have hS53 : St ⟨w, [], φ⟩ φ47 [] W50 := hS52
     refine OKS.r rfl rfl rfl rfl (fun _ => Runs.notT rfl rfl) ?_
     refine OKS.ra rfl rfl rfl rfl rfl rfl ?_
     refine OKS.e ?_
     refine thenQ_n ?_
     by_cases c54 : x44 = true
     ·have hm55 := hm46; rw [if_pos c54] at hm55; replace c54 := Hid.mk c54
      refine CK.condF (congrArg (fun b => Value.bool (!b)) c54.out) ?_
      refine CK.skip ?_
      refine blockQ_n ?_
      exact thenQ_n ⟨rfl, (Option.some.inj hm55).symm, ⟨φ47, rfl, rfl, le51, hS53⟩⟩
     ·have hm56 := hm46; rw [if_neg c54] at hm56; replace c54 := Hid.mk c54
      refine CK.condT (congrArg (fun b => Value.bool (!b)) (Bool.eq_false_iff.2 c54.out)) ?_
      refine CK.seq ?_
      refine CK.reg (ks := []) (.fl 0 (.fl 1 (.nil))) rfl ?_
      refine OKS.ra rfl rfl rfl rfl rfl rfl ?_
      refine OKS.ra rfl rfl rfl rfl rfl rfl ?_
      refine OKS.e ?_
      refine thenQ_n ?_
      refine CK.ret ?_
      refine blockQ_r ?_
      have q := esc_spec hm56
      obtain ⟨v57, hm58, e59⟩ := q
      obtain rfl := jn_inr hm hx2 e59
      refine thenQ_r ?_
      have hS60 := hS53.nilrow 3 1
      cases hm58
      exact ⟨rfl, _, (res2 rfl rfl), φ47, _, hS60, none, 0, rfl, rfl⟩
   ·have hm62 := hm32; rw [if_neg c33] at hm62; replace c33 := Hid.mk c33
    refine CK.condT (decT c33.out) ?_
    refine CK.seq ?_
    refine CK.reg (ks := []) (.fl 0 (.fl 1 (.nil))) rfl ?_
    refine OKS.ra rfl rfl rfl rfl rfl rfl ?_
    refine OKS.ra rfl rfl rfl rfl rfl rfl ?_
    refine OKS.e ?_
    refine thenQ_n ?_
    refine CK.ret ?_
    refine blockQ_r ?_
    have q := esc_spec hm62
    obtain ⟨v63, hm64, e65⟩ := q
    obtain rfl := jn_inr hm hx2 e65
    refine thenQ_r ?_
    have hS66 := hS.nilrow 3 1
    cases hm64
    exact ⟨rfl, _, (res2 rfl rfl), φ, _, hS66, none, 0, rfl, rfl⟩
 ·rintro σ68 W69 ⟨er70, ⟨φ71, f74, f75, le72, hS73⟩⟩
  have hm76 := jn_inl hm hx2 er70
  try dsimp only at hm76
  refine CK.seq ?_
  refine CK.reg (ks := []) (.fl 0 (.fl 1 (.fl 2 (.fl 3 (.nil))))) rfl ?_
  refine OKS.r rfl rfl rfl rfl (fun _ => Runs.buildA (pv := [(0, .int .i64 225), (1, .int .i64 575)]) (z := [.int .i64 0, .int .i64 0]) (cs := [.int .i64 225, .int .i64 575]) rfl (mapcons2 rfl (mapcons2 rfl mapnil2)) Tryz.zeroValue175 Tryz.runUnderlying175 Tryz.sizeOf3 rfl rfl) ?_
  refine OKS.rm rfl rfl rfl rfl rfl f74 ?_
  have q := bnd hm76
  obtain ⟨x77, h78, hm79⟩ := q
  refine OKS.r rfl rfl rfl rfl (fun _ => Runs.ixA (cs := List.flatMap encI ([225, 575] : List Int)) rfl rfl rfl Tryz.runUnderlying175 Tryz.sizeOf3 (idx_lo h78) (idx_hi h78) (run_part1 Tryz.isAgg3 (flatMap_at (sz := 1) (fun _ => rfl) _ _ 0 _ _ (idx_get h78) rfl))) ?_
  refine OKS.ra rfl rfl rfl rfl rfl rfl ?_
  refine OKS.e ?_
  refine thenQ_n ?_
  refine CK.seq ?_
  refine CK.reg (ks := []) (.fx 0 (.nil) .stop) rfl ?_
  refine OKS.alloc (cs := List.flatMap encT (Arr.fill 6 false).l) rfl rfl rfl rfl rfl Tryz.zeroValue240 rfl hS73 ?_
  intro W80 b81 hS82
  have hS84 : St ⟨w, [], φ⟩ φ71 [.blk b81 240 (List.flatMap encT (Arr.fill 6 false).l)] W80 := hS82
  refine OKS.e ?_
  refine thenQ_n ?_
  refine CK.seq ?_
  refine CK.reg (ks := []) (.fl 0 (.nil)) rfl ?_
  refine OKS.ra rfl rfl rfl rfl rfl rfl ?_
  refine OKS.e ?_
  refine thenQ_n ?_
  refine CK.seq ?_
  refine CK.reg (ks := []) (.fl 0 (.nil)) rfl ?_
  refine OKS.ra rfl rfl rfl rfl rfl rfl ?_
  refine OKS.e ?_
  refine thenQ_n ?_
  refine CK.seq ?_
  refine CK.seq ?_
  refine CK.reg (ks := []) (.fl 0 (.fl 1 (.fl 2 (.nil)))) rfl ?_
  refine OKS.rm rfl rfl rfl rfl rfl f75 ?_
  refine OKS.r rfl rfl rfl rfl (fun _ => Runs.len rfl rfl Tryz.runUnderlying81) ?_
  refine OKS.rm rfl rfl rfl rfl rfl rfl ?_
  refine OKS.e ?_
  refine thenQ_n ?_
  refine CK.block ?_
  have q := jn_some hm79
  obtain ⟨r111, hX112⟩ := q
  have q := forR_le hX112
  obtain ⟨hle113, hf114⟩ := q
  replace hle113 := Hid.mk hle113
  refine CK.forN (fun k110 (a104, x105, l106) σ_ w_ => ∃ (φ_ : PHeap) (A107 : Option Addr) (c108 : Nat), σ_ 35 = .int .i64 (↑k110 : Int) ∧ σ_ 6 = .int .i64 x77 ∧ σ_ 7 = .pointer (some ⟨b81, 0, none⟩) ∧ σ_ 8 = .int .i64 x105 ∧ σ_ 9 = .slice A107 l106.length c108 ∧ σ_ 33 = .slice pA1 p1.length pc1 ∧ σ_ 34 = .int .i64 (↑p1.length : Int) ∧ PHeap.Le φ71 φ_ ∧ St ⟨w, [], φ⟩ φ_ [.blk b81 240 (List.flatMap encT a104.l), .row A107 c108 3 1 (List.flatMap encI l106)] w_) hf114 ?_ ?_ ?_
  ·have hS115 := hS84.nilrow 3 1
   exact ⟨φ71, none, 0, rfl, rfl, rfl, rfl, rfl, rfl, rfl, (PHeap.Le.refl _), (hS115.pick [1, 0] _ (by decide) rfl)⟩
  ·rintro k110 ⟨a104, x105, l106⟩ xx119 σ117 W118 hk122 ⟨φ124, A107, c108, fi123, f127, f128, f129, f130, f131, f132, le125, hS126⟩ hx120 hb121
   try dsimp only at hx120
   have c133 : Hid ((↑k110 : Int) < (↑p1.length : Int)) := Hid.mk (lp_lt0 hk122)
   replace hk122 := Hid.mk hk122
   have hi134 : Hid (w64 ((↑k110 : Int) + 1) = (↑(k110 + 1) : Int)) := Hid.mk (by have h1 := hle113.out; have h2 := c133.out; rw [w64_in] <;> omega)
   refine CK.seq ?_
   refine CK.reg (ks := []) (.fl 0 (.nil)) rfl ?_
   refine OKS.r rfl rfl rfl rfl (fun _ => Runs.lss rfl fi123 f132) ?_
   refine OKS.e ?_
   refine thenQ_n ?_
   refine CK.seq ?_
   refine CK.condT (decT c133.out) ?_
   refine CK.skip ?_
   refine thenQ_n ?_
   refine CK.seq ?_
   refine CK.block ?_
   refine CK.seq ?_
   refine CK.reg (ks := []) (.fl 0 (.fl 1 (.fx 2 (.fx 3 (.nil) .stop) .stop))) rfl ?_
   have q := bnd hx120
   obtain ⟨x135, h136, hm137⟩ := q
   have h138 := ha0.le le72
   have h139 := h138.le le125
   have q := h139.el (fun _ => rfl) (idx_get h136)
   obtain ⟨b140, off141, hA142, hC143⟩ := q
   refine OKS.r rfl rfl rfl rfl (fun _ => Runs.iaN rfl f131 hA142 fi123 Tryz.runUnderlying81 Tryz.sizeOf83 (idx_lt h136)) ?_
   refine OKS.m rfl rfl rfl rfl (hS126.ldCA (f := 0) hC143 rfl rfl Tryz.isAgg83 Tryz.sizeOf83 (us := [.int .i64 x135.X, .int .i64 x135.Y]) rfl rfl) rfl ?_
   refine OKS.alloc (cs := [.int .i64 0, .int .i64 0]) rfl rfl rfl rfl rfl Tryz.zeroValue83 rfl hS126 ?_
   intro W144 b145 hS146
   refine OKS.st (j := 0) (vs := [.int .i64 x135.X, .int .i64 x135.Y]) rfl rfl rfl rfl hS146 rfl rfl rfl rfl Tryz.sizeOf83 (Nat.le_of_ble_eq_true rfl) rfl rfl rfl ?_
   intro W148 hS149
   have hS150 : St ⟨w, [], φ⟩ φ124 [.blk b145 83 [.int .i64 x135.X, .int .i64 x135.Y], .blk b81 240 (List.flatMap encT a104.l), .row A107 c108 3 1 (List.flatMap encI l106)] W148 := hS149
   refine OKS.e ?_
   refine thenQ_n ?_
   refine CK.seq ?_
   refine CK.seq ?_
   refine CK.reg (ks := []) (.fl 0 (.fl 1 (.nil))) rfl ?_
   refine OKS.rm rfl rfl rfl rfl rfl f129 ?_
   refine OKS.r rfl rfl rfl rfl (fun _ => Runs.eql rfl rfl rfl) ?_
   refine OKS.e ?_
   refine thenQ_n ?_
   by_cases c151 : x105 = 5
   ·have hm152 := hm137; rw [if_pos c151] at hm152; replace c151 := Hid.mk c151
    refine CK.condT (decT c151.out) ?_
    refine CK.seq ?_
    refine CK.reg (ks := []) (.fl 0 (.fl 1 (.nil))) rfl ?_
    refine OKS.ra rfl rfl rfl rfl rfl rfl ?_
    refine OKS.ra rfl rfl rfl rfl rfl rfl ?_
    refine OKS.e ?_
    refine thenQ_n ?_
    refine CK.ret ?_
    refine thenQ_r ?_
    refine blockQ_r ?_
    refine thenQ_r ?_
    have q := esc_spec hm152
    obtain ⟨v153, hm154, e155⟩ := q
    obtain rfl := jn_inr hm79 hX112 (hb121 v153 e155)
    refine thenQ_r ?_
    refine blockQ_r ?_
    refine thenQ_r ?_
    have hS156 := hS150.nilrow 3 1
    cases hm154
    exact ⟨rfl, _, (res2 rfl rfl), φ124, _, (hS156.pick [0] _ (by decide) rfl), none, 0, rfl, rfl⟩
   ·have hm158 := hm137; rw [if_neg c151] at hm158; replace c151 := Hid.mk c151
    refine CK.condF (decF c151.out) ?_
    refine CK.skip ?_
    refine thenQ_n ?_
    refine CK.seq ?_
    refine CK.reg (ks := []) (.fl 0 (.nil)) rfl ?_
    refine OKS.ra rfl rfl rfl rfl rfl rfl ?_
    refine OKS.e ?_
    refine thenQ_n ?_
    refine CK.seq ?_
    refine CK.seq ?_
    refine CK.reg (ks := []) (.fl 0 (.nil)) rfl ?_
    refine OKS.ra rfl rfl rfl rfl rfl rfl ?_
    refine OKS.e ?_
    refine thenQ_n ?_
    refine CK.block ?_
    have q := bnd hm158
    obtain ⟨y170, hf167, hm166⟩ := q
    have q := forR'_le hf167
    obtain ⟨hle168, hf169⟩ := q
    replace hle168 := Hid.mk hle168
    refine CK.forN' (fun k165 x164 σ_ w_ => ∃ (φ_ : PHeap), σ_ 13 = .int .i64 (1 + ↑k165 : Int) ∧ σ_ 6 = .int .i64 x77 ∧ σ_ 7 = .pointer (some ⟨b81, 0, none⟩) ∧ σ_ 8 = .int .i64 x105 ∧ σ_ 9 = .slice A107 l106.length c108 ∧ σ_ 11 = .pointer (some ⟨b145, 0, none⟩) ∧ σ_ 12 = .int .i64 x164 ∧ σ_ 33 = .slice pA1 p1.length pc1 ∧ σ_ 34 = .int .i64 (↑p1.length : Int) ∧ σ_ 35 = .int .i64 (↑k110 : Int) ∧ PHeap.Le φ124 φ_ ∧ St ⟨w, [], φ⟩ φ_ [.blk b145 83 [.int .i64 x135.X, .int .i64 x135.Y], .blk b81 240 (List.flatMap encT a104.l), .row A107 c108 3 1 (List.flatMap encI l106)] w_) hf169 ?_ ?_ ?_
    ·exact ⟨φ124, rfl, f127, f128, f129, f130, rfl, rfl, f131, f132, fi123, (PHeap.Le.refl _), hS150⟩
    ·rintro k165 x164 xx173 σ171 W172 hk176 ⟨φ178, fi177, f181, f182, f183, f184, f185, f186, f187, f188, f189, le179, hS180⟩ hx174
     have c190 : Hid ((1 + ↑k165 : Int) ≤ 5) := Hid.mk (lp_le hk176)
     replace hk176 := Hid.mk hk176
     have hi191 : Hid (w64 ((1 + ↑k165 : Int) + 1) = (1 + ↑(k165 + 1) : Int)) := Hid.mk (by have h1 := hle168.out; have h2 := c190.out; rw [w64_in] <;> omega)
     refine CK.seq ?_
     refine CK.seq ?_
     refine CK.reg (ks := []) (.fl 0 (.fl 1 (.nil))) rfl ?_
     refine OKS.rm rfl rfl rfl rfl rfl fi177 ?_
     refine OKS.r rfl rfl rfl rfl (fun _ => Runs.leq rfl rfl rfl) ?_
     refine OKS.e ?_
     refine thenQ_n ?_
     refine CK.condT (decT c190.out) ?_
     refine CK.skip ?_
     refine thenQ_n ?_
     refine CK.seq ?_
     refine CK.block ?_
     refine CK.seq ?_
     refine CK.reg (ks := []) (.fl 0 (.fl 1 (.fl 2 (.fl 3 (.fl 4 (.fl 5 (.fl 6 (.nil)))))))) rfl ?_
     refine OKS.r rfl rfl rfl rfl (fun _ => Runs.fa rfl f185 Tryz.runUnderlying83 rfl Tryz.sizeOf3) ?_
     refine OKS.m rfl rfl rfl rfl (hS180.ldB (j := 0) rfl rfl rfl Tryz.isAgg3 (v := .int .i64 x135.X) rfl) rfl ?_
     refine OKS.rm rfl rfl rfl rfl rfl fi177 ?_
     refine OKS.r rfl rfl rfl rfl (fun _ => Runs.subw rfl rfl rfl) ?_
     refine OKS.r rfl rfl rfl rfl (fun _ => Runs.mulw rfl rfl rfl) ?_
     refine OKS.r rfl rfl rfl rfl (fun _ => Runs.subw rfl rfl rfl) ?_
     refine OKS.ra rfl rfl rfl rfl rfl rfl ?_
     refine OKS.e ?_
     refine thenQ_n ?_
     refine CK.seq ?_
     refine CK.reg (ks := []) (.fl 0 (.fl 1 (.fl 2 (.fl 3 (.fl 4 (.fl 5 (.fl 6 (.fl 7 (.fl 8 (.fl 9 (.fl 10 (.fl 11 (.fl 12 (.fl 13 (.fl 14 (.fl 15 (.fl 16 (.fl 17 (.fl 18 (.nil)))))))))))))))))))) rfl ?_
     refine OKS.rm rfl rfl rfl rfl rfl fi177 ?_
     have q := bnd hx174
     obtain ⟨_, h192, hm193⟩ := q
     refine OKS.r rfl rfl rfl rfl (fun _ => Runs.iaA rfl f182 rfl Tryz.runUnderlying240 Tryz.sizeOf4 (chk_lo h192) (chk_hi h192)) ?_
     have hg194 := Arr.at_ a104 (k := ((1 + ↑k165 : Int).toNat)) (by have hz0 := chk_lt h192; omega)
     refine OKS.m rfl rfl rfl rfl (hS180.ldB (j := 1) rfl rfl rfl Tryz.isAgg4 (flatMap_cell (sz := 1) (fun _ => rfl) _ _ 0 _ hg194 (by first | omega | rfl | simp) rfl)) rfl ?_
     refine OKS.r rfl rfl rfl rfl (fun _ => Runs.notT rfl rfl) ?_
     refine OKS.rm rfl rfl rfl rfl rfl rfl ?_
     by_cases c195 : (a104.get ((1 + ↑k165 : Int).toNat)) = true
     ·have hm196 := hm193; rw [if_pos c195] at hm196; replace c195 := Hid.mk c195
      refine OKS.p rfl rfl rfl (wantedN rfl rfl (congrArg (fun b => Value.bool (!b)) c195.out) rfl) ?_
      refine OKS.p rfl rfl rfl (wantedN rfl rfl (congrArg (fun b => Value.bool (!b)) c195.out) rfl) ?_
      refine OKS.p rfl rfl rfl (wantedN rfl rfl (congrArg (fun b => Value.bool (!b)) c195.out) rfl) ?_
      refine OKS.p rfl rfl rfl (wantedN rfl rfl (congrArg (fun b => Value.bool (!b)) c195.out) rfl) ?_
      refine OKS.p rfl rfl rfl (wantedN rfl rfl (congrArg (fun b => Value.bool (!b)) c195.out) rfl) ?_
      refine OKS.p rfl rfl rfl (wantedN rfl rfl (congrArg (fun b => Value.bool (!b)) c195.out) rfl) ?_
      refine OKS.p rfl rfl rfl (wantedN rfl rfl (congrArg (fun b => Value.bool (!b)) c195.out) rfl) ?_
      refine OKS.p rfl rfl rfl (wantedN rfl rfl (congrArg (fun b => Value.bool (!b)) c195.out) rfl) ?_
      refine OKS.p rfl rfl rfl (wantedN rfl rfl (congrArg (fun b => Value.bool (!b)) c195.out) rfl) ?_
      refine OKS.p rfl rfl rfl (wantedN rfl rfl (congrArg (fun b => Value.bool (!b)) c195.out) rfl) ?_
      refine OKS.p rfl rfl rfl (wantedN rfl rfl (congrArg (fun b => Value.bool (!b)) c195.out) rfl) ?_
      refine OKS.p rfl rfl rfl (wantedN rfl rfl (congrArg (fun b => Value.bool (!b)) c195.out) rfl) ?_
      refine OKS.p rfl rfl rfl (wantedN rfl rfl (congrArg (fun b => Value.bool (!b)) c195.out) rfl) ?_
      refine OKS.r rfl rfl rfl rfl (fun _ => Runs.pickF rfl (congrArg (fun b => Value.bool (!b)) c195.out) rfl) ?_
      refine OKS.e ?_
      refine thenQ_n ?_
      refine CK.condF rfl ?_
      refine CK.skip ?_
      refine blockQ_n ?_
      refine thenQ_n ?_
      refine CK.reg (ks := []) (.fl 0 (.fl 1 (.fl 2 (.nil)))) rfl ?_
      refine OKS.rm rfl rfl rfl rfl rfl fi177 ?_
      refine OKS.r rfl rfl rfl rfl (fun _ => Runs.to (Runs.addw rfl rfl rfl) (congrArg (Value.int .i64) hi191.out)) ?_
      refine OKS.ra rfl rfl rfl rfl rfl rfl ?_
      refine OKS.e ?_
      cases hm196
      exact thenQ_n ⟨rfl, ⟨φ178, rfl, f181, f182, f183, f184, f185, f186, f187, f188, f189, le179, hS180⟩⟩
     ·have hm198 := hm193; rw [if_neg c195] at hm198; replace c195 := Hid.mk c195
      refine OKS.rm rfl rfl rfl (wantedY rfl rfl (congrArg (fun b => Value.bool (!b)) (Bool.eq_false_iff.2 c195.out))) rfl rfl ?_
      refine OKS.rm rfl rfl rfl (wantedY rfl rfl (congrArg (fun b => Value.bool (!b)) (Bool.eq_false_iff.2 c195.out))) rfl rfl ?_
      refine OKS.r rfl rfl rfl (wantedY rfl rfl (congrArg (fun b => Value.bool (!b)) (Bool.eq_false_iff.2 c195.out))) (fun _ => Runs.mulw rfl rfl rfl) ?_
      refine OKS.r rfl rfl rfl (wantedY rfl rfl (congrArg (fun b => Value.bool (!b)) (Bool.eq_false_iff.2 c195.out))) (fun _ => Runs.fa rfl f185 Tryz.runUnderlying83 rfl Tryz.sizeOf3) ?_
      refine OKS.m rfl rfl rfl (wantedY rfl rfl (congrArg (fun b => Value.bool (!b)) (Bool.eq_false_iff.2 c195.out))) (hS180.ldB (j := 0) rfl rfl rfl Tryz.isAgg3 (v := .int .i64 x135.Y) rfl) rfl ?_
      refine OKS.r rfl rfl rfl (wantedY rfl rfl (congrArg (fun b => Value.bool (!b)) (Bool.eq_false_iff.2 c195.out))) (fun _ => Runs.fa rfl f185 Tryz.runUnderlying83 rfl Tryz.sizeOf3) ?_
      refine OKS.m rfl rfl rfl (wantedY rfl rfl (congrArg (fun b => Value.bool (!b)) (Bool.eq_false_iff.2 c195.out))) (hS180.ldB (j := 0) rfl rfl rfl Tryz.isAgg3 (v := .int .i64 x135.Y) rfl) rfl ?_
      refine OKS.r rfl rfl rfl (wantedY rfl rfl (congrArg (fun b => Value.bool (!b)) (Bool.eq_false_iff.2 c195.out))) (fun _ => Runs.mulw rfl rfl rfl) ?_
      refine OKS.r rfl rfl rfl (wantedY rfl rfl (congrArg (fun b => Value.bool (!b)) (Bool.eq_false_iff.2 c195.out))) (fun _ => Runs.addw rfl rfl rfl) ?_
      refine OKS.rm rfl rfl rfl (wantedY rfl rfl (congrArg (fun b => Value.bool (!b)) (Bool.eq_false_iff.2 c195.out))) rfl f181 ?_
      refine OKS.rm rfl rfl rfl (wantedY rfl rfl (congrArg (fun b => Value.bool (!b)) (Bool.eq_false_iff.2 c195.out))) rfl f181 ?_
      refine OKS.r rfl rfl rfl (wantedY rfl rfl (congrArg (fun b => Value.bool (!b)) (Bool.eq_false_iff.2 c195.out))) (fun _ => Runs.mulw rfl rfl rfl) ?_
      refine OKS.r rfl rfl rfl (wantedY rfl rfl (congrArg (fun b => Value.bool (!b)) (Bool.eq_false_iff.2 c195.out))) (fun _ => Runs.leq rfl rfl rfl) ?_
      refine OKS.r rfl rfl rfl rfl (fun _ => Runs.pickT rfl (congrArg (fun b => Value.bool (!b)) (Bool.eq_false_iff.2 c195.out)) rfl) ?_
      refine OKS.e ?_
      refine thenQ_n ?_
      by_cases c199 : (w64 ((w64 ((w64 (x135.X - (w64 (2500 * (w64 ((1 + ↑k165 : Int) - 1)))))) * (w64 (x135.X - (w64 (2500 * (w64 ((1 + ↑k165 : Int) - 1)))))))) + (w64 (x135.Y * x135.Y)))) ≤ (w64 (x77 * x77))
      ·have hm200 := hm198; rw [if_pos c199] at hm200; replace c199 := Hid.mk c199
       refine CK.condT (decT c199.out) ?_
       refine CK.reg (ks := []) (.fl 0 (.fl 1 (.nil))) rfl ?_
       refine OKS.rm rfl rfl rfl rfl rfl fi177 ?_
       refine OKS.ra rfl rfl rfl rfl rfl rfl ?_
       refine OKS.e ?_
       refine blockQ_n ?_
       refine thenQ_n ?_
       refine CK.reg (ks := []) (.fl 0 (.fl 1 (.fl 2 (.nil)))) rfl ?_
       refine OKS.rm rfl rfl rfl rfl rfl fi177 ?_
       refine OKS.r rfl rfl rfl rfl (fun _ => Runs.to (Runs.addw rfl rfl rfl) (congrArg (Value.int .i64) hi191.out)) ?_
       refine OKS.ra rfl rfl rfl rfl rfl rfl ?_
       refine OKS.e ?_
       cases hm200
       exact thenQ_n ⟨rfl, ⟨φ178, rfl, f181, f182, f183, f184, f185, rfl, f187, f188, f189, le179, hS180⟩⟩
      ·have hm202 := hm198; rw [if_neg c199] at hm202; replace c199 := Hid.mk c199
       refine CK.condF (decF c199.out) ?_
       refine CK.skip ?_
       refine blockQ_n ?_
       refine thenQ_n ?_
       refine CK.reg (ks := []) (.fl 0 (.fl 1 (.fl 2 (.nil)))) rfl ?_
       refine OKS.rm rfl rfl rfl rfl rfl fi177 ?_
       refine OKS.r rfl rfl rfl rfl (fun _ => Runs.to (Runs.addw rfl rfl rfl) (congrArg (Value.int .i64) hi191.out)) ?_
       refine OKS.ra rfl rfl rfl rfl rfl rfl ?_
       refine OKS.e ?_
       cases hm202
       exact thenQ_n ⟨rfl, ⟨φ178, rfl, f181, f182, f183, f184, f185, f186, f187, f188, f189, le179, hS180⟩⟩
    ·rintro σ204 W205 ⟨φ209, fi207, f212, f213, f214, f215, f216, f217, f218, f219, f220, le210, hS211⟩
     have c221 : Hid (¬ ((1 + ↑(((5 + 1) : Int) - 1).toNat : Int) ≤ 5)) := Hid.mk (lp_end_le)
     refine CK.seq ?_
     refine CK.seq ?_
     refine CK.reg (ks := []) (.fl 0 (.fl 1 (.nil))) rfl ?_
     refine OKS.rm rfl rfl rfl rfl rfl fi207 ?_
     refine OKS.r rfl rfl rfl rfl (fun _ => Runs.leq rfl rfl rfl) ?_
     refine OKS.e ?_
     refine thenQ_n ?_
     refine CK.condF (decF c221.out) ?_
     refine CK.exit ?_
     refine thenQ_e ?_
     refine thenQ_e ?_
     refine blockQ_h ?_
     refine thenQ_n ?_
     refine CK.seq ?_
     refine CK.seq ?_
     refine CK.reg (ks := []) (.fl 0 (.fl 1 (.nil))) rfl ?_
     refine OKS.rm rfl rfl rfl rfl rfl f217 ?_
     refine OKS.r rfl rfl rfl rfl (fun _ => Runs.gtr rfl rfl rfl) ?_
     refine OKS.e ?_
     refine thenQ_n ?_
     by_cases c222 : 0 < y170
     ·have hm223 := hm166; rw [if_pos c222] at hm223; replace c222 := Hid.mk c222
      refine CK.condT (decT c222.out) ?_
      refine CK.seq ?_
      refine CK.reg (ks := []) (.fl 0 (.fl 1 (.fx 2 (.nil) .stop))) rfl ?_
      refine OKS.rm rfl rfl rfl rfl rfl f217 ?_
      have q := bnd hm223
      obtain ⟨_, h224, hm225⟩ := q
      refine OKS.r rfl rfl rfl rfl (fun _ => Runs.iaA rfl f213 rfl Tryz.runUnderlying240 Tryz.sizeOf4 (chk_lo h224) (chk_hi h224)) ?_
      have hg226 := Arr.at_ a104 (k := y170.toNat) (by have hz0 := chk_lt h224; omega)
      refine OKS.st (j := 1) (vs := [.bool true]) (cs' := List.flatMap encT (a104.set y170.toNat true).l) rfl rfl rfl rfl hS211 rfl rfl rfl rfl Tryz.sizeOf4 (by have hz0 := chk_lt h224; simp only [List.length_append, List.length_cons, List.length_nil, whole_len (f := encT) (sz := 1) (N := 6) a104 (fun _ => rfl) rfl]; omega) rfl (setN_at (sz := 1) (fo := 0) (fun _ => rfl) _ _ _ _ hg226 (by first | omega | rfl | simp) (Nat.le_of_ble_eq_true rfl) rfl) rfl ?_
      intro W227 hS228
      have hS229 : St ⟨w, [], φ⟩ φ209 [.blk b145 83 [.int .i64 x135.X, .int .i64 x135.Y], .blk b81 240 (List.flatMap encT (a104.set y170.toNat true).l), .row A107 c108 3 1 (List.flatMap encI l106)] W227 := hS228
      refine OKS.e ?_
      refine thenQ_n ?_
      refine CK.reg (ks := []) (.fl 0 (.fl 1 (.fl 2 (.nil)))) rfl ?_
      refine OKS.rm rfl rfl rfl rfl rfl f214 ?_
      refine OKS.r rfl rfl rfl rfl (fun _ => Runs.addw rfl rfl rfl) ?_
      refine OKS.ra rfl rfl rfl rfl rfl rfl ?_
      refine OKS.e ?_
      refine thenQ_n ?_
      refine CK.reg (ks := []) (.fl 0 (.fl 1 (.fx 2 (.fx 3 (.fl 4 (.nil)) .stop) .stop))) rfl ?_
      refine OKS.rm rfl rfl rfl rfl rfl f215 ?_
      refine OKS.rm rfl rfl rfl rfl rfl f217 ?_
      refine OKS.buildSlice (pv := [(0, .int .i64 y170)]) (zs := [.int .i64 0]) (cs := [.int .i64 y170]) rfl rfl rfl rfl rfl (mapcons2 rfl mapnil2) Tryz.runUnderlying23 Tryz.sizeOf3 Tryz.zeroValue3 rfl rfl rfl rfl rfl hS229 ?_
      intro W230 b231 hS232
      have hS234 : St ⟨w, [], φ⟩ φ209 [.row (some ⟨b231, 0, none⟩) 1 3 1 (List.flatMap encI [y170]), .blk b145 83 [.int .i64 x135.X, .int .i64 x135.Y], .blk b81 240 (List.flatMap encT (a104.set y170.toNat true).l), .row A107 c108 3 1 (List.flatMap encI l106)] W230 := hS232
      have q := bnd hm225
      obtain ⟨x235, h236, hm237⟩ := q
      refine OKS.append (j := 3) (enc := encI) (xs := l106) (ys := [y170]) (zs := x235) rfl rfl rfl rfl rfl Tryz.underlying23 info3 rfl rfl rfl rfl rfl rfl hS234 rfl rfl rfl (hS234.srcR (j := 0) rfl (by decide) (flatMap_len (f := encI) (sz := 1) (fun _ => rfl) [y170])) (fun _ => rfl) (fun _ => rfl) h236 rfl ?_
      intro A238 c239 W240 hS241
      have hS242 : St ⟨w, [], φ⟩ φ209 [.row (some ⟨b231, 0, none⟩) 1 3 1 (List.flatMap encI [y170]), .blk b145 83 [.int .i64 x135.X, .int .i64 x135.Y], .blk b81 240 (List.flatMap encT (a104.set y170.toNat true).l), .row A238 c239 3 1 (List.flatMap encI x235)] W240 := hS241
      refine OKS.ra rfl rfl rfl rfl rfl rfl ?_
      refine OKS.e ?_
      refine blockQ_n ?_
      refine thenQ_n ?_
      refine CK.reg (ks := []) (.fl 0 (.fl 1 (.nil))) rfl ?_
      refine OKS.r rfl rfl rfl rfl (fun _ => Runs.to (Runs.addw rfl f220 rfl) (congrArg (Value.int .i64) hi134.out)) ?_
      refine OKS.rm rfl rfl rfl rfl rfl rfl ?_
      refine OKS.e ?_
      obtain rfl := Option.some.inj hm237
      exact thenQ_n ⟨rfl, _, rfl, ⟨φ209, A238, c239, rfl, f212, f213, rfl, rfl, f218, f219, (le125.trans le210), (hS242.pick [2, 3] _ (by decide) rfl)⟩⟩
     ·have hm248 := hm166; rw [if_neg c222] at hm248; replace c222 := Hid.mk c222
      refine CK.condF (decF c222.out) ?_
      refine CK.skip ?_
      refine thenQ_n ?_
      refine CK.reg (ks := []) (.fl 0 (.fl 1 (.fx 2 (.fx 3 (.fl 4 (.nil)) .stop) .stop))) rfl ?_
      refine OKS.rm rfl rfl rfl rfl rfl f215 ?_
      refine OKS.rm rfl rfl rfl rfl rfl f217 ?_
      refine OKS.buildSlice (pv := [(0, .int .i64 y170)]) (zs := [.int .i64 0]) (cs := [.int .i64 y170]) rfl rfl rfl rfl rfl (mapcons2 rfl mapnil2) Tryz.runUnderlying23 Tryz.sizeOf3 Tryz.zeroValue3 rfl rfl rfl rfl rfl hS211 ?_
      intro W249 b250 hS251
      have hS253 : St ⟨w, [], φ⟩ φ209 [.row (some ⟨b250, 0, none⟩) 1 3 1 (List.flatMap encI [y170]), .blk b145 83 [.int .i64 x135.X, .int .i64 x135.Y], .blk b81 240 (List.flatMap encT a104.l), .row A107 c108 3 1 (List.flatMap encI l106)] W249 := hS251
      have q := bnd hm248
      obtain ⟨x254, h255, hm256⟩ := q
      refine OKS.append (j := 3) (enc := encI) (xs := l106) (ys := [y170]) (zs := x254) rfl rfl rfl rfl rfl Tryz.underlying23 info3 rfl rfl rfl rfl rfl rfl hS253 rfl rfl rfl (hS253.srcR (j := 0) rfl (by decide) (flatMap_len (f := encI) (sz := 1) (fun _ => rfl) [y170])) (fun _ => rfl) (fun _ => rfl) h255 rfl ?_
      intro A257 c258 W259 hS260
      have hS261 : St ⟨w, [], φ⟩ φ209 [.row (some ⟨b250, 0, none⟩) 1 3 1 (List.flatMap encI [y170]), .blk b145 83 [.int .i64 x135.X, .int .i64 x135.Y], .blk b81 240 (List.flatMap encT a104.l), .row A257 c258 3 1 (List.flatMap encI x254)] W259 := hS260
      refine OKS.ra rfl rfl rfl rfl rfl rfl ?_
      refine OKS.e ?_
      refine blockQ_n ?_
      refine thenQ_n ?_
      refine CK.reg (ks := []) (.fl 0 (.fl 1 (.nil))) rfl ?_
      refine OKS.r rfl rfl rfl rfl (fun _ => Runs.to (Runs.addw rfl f220 rfl) (congrArg (Value.int .i64) hi134.out)) ?_
      refine OKS.rm rfl rfl rfl rfl rfl rfl ?_
      refine OKS.e ?_
      obtain rfl := Option.some.inj hm256
      exact thenQ_n ⟨rfl, _, rfl, ⟨φ209, A257, c258, rfl, f212, f213, f214, rfl, f218, f219, (le125.trans le210), (hS261.pick [2, 3] _ (by decide) rfl)⟩⟩
  ·rintro ⟨y271, y272, y273⟩ σ267 W268 ⟨φ276, A274, c275, fi270, f279, f280, f281, f282, f283, f284, le277, hS278⟩ hb269
   have hm285 := jn_inl hm79 hX112 hb269
   try dsimp only at hm285
   have c286 : Hid (¬ ((↑(((↑p1.length : Int) : Int) - 0).toNat : Int) < (↑p1.length : Int))) := Hid.mk (lp_end0)
   refine CK.seq ?_
   refine CK.reg (ks := []) (.fl 0 (.nil)) rfl ?_
   refine OKS.r rfl rfl rfl rfl (fun _ => Runs.lss rfl fi270 f284) ?_
   refine OKS.e ?_
   refine thenQ_n ?_
   refine CK.seq ?_
   refine CK.condF (decF c286.out) ?_
   refine CK.exit ?_
   refine thenQ_e ?_
   refine thenQ_e ?_
   refine blockQ_h ?_
   refine thenQ_n ?_
   refine CK.seq ?_
   refine CK.reg (ks := []) (.fl 0 (.fl 1 (.fl 2 (.nil)))) rfl ?_
   refine OKS.rm rfl rfl rfl rfl rfl f282 ?_
   refine OKS.ra rfl rfl rfl rfl rfl rfl ?_
   refine OKS.ra rfl rfl rfl rfl rfl rfl ?_
   refine OKS.e ?_
   refine thenQ_n ?_
   refine CK.ret ?_
   cases hm285
   exact ⟨rfl, _, (res2 rfl rfl), φ276, _, (hS278.pick [1] _ (by decide) rfl), A274, c275, rfl, rfl⟩
end Go.Proofs.YtjfffcjjlnmneaaGreat
