/- Walks, printed by a program: each function does what its model says. -/
import Derived.Test.YtaoaelhmiggepaaEnc
namespace Go.Proofs.Ytaoaelhmiggepaa
open Go.KL
set_option maxHeartbeats 4000000 in
theorem w_klisterkit_Of (p0 : List Int) (pA0 : Option Addr) (pc0 : Nat) (w : World) (φ : PHeap) (hS : St ⟨w, [], φ⟩ φ [] w) (ha0 : Sl φ 1 pA0 pc0 p0.length (List.flatMap encB8 p0)) {r : T_klisterkit_Deck} (hm : m_klisterkit_Of p0 = some r) : Gv Try.prog 28 [.slice pA0 p0.length pc0] w (RetS w [] φ (fun φ_ L_ v => ∃ (b0 : Nat) (A0p0 : Option Addr) (c0p0 : Nat), v = .pointer (some ⟨b0, 0, none⟩) ∧ L_ = [.blk b0 141 [.slice A0p0 r.bytes.length c0p0, .int .i64 r.next, .int .u32 r.state]] ∧ Sl φ_ 1 A0p0 c0p0 r.bytes.length (List.flatMap encB8 r.bytes))) := by
 unfold m_klisterkit_Of at hm
 refine Gv.of Try.func28 rfl Try.ntmps28 Try.results28 rfl ?_
 refine CK.seq ?_
 refine CK.reg (ks := []) (.fl 0 (.nil)) rfl ?_
 refine OKS.ra rfl rfl rfl rfl rfl rfl ?_
 refine OKS.e ?_
 refine thenQ_n ?_
 refine CK.seq ?_
 refine CK.reg (ks := []) (.fl 0 (.fl 1 (.fx 2 (.fl 3 (.nil)) .stop))) rfl ?_
 refine OKS.rm rfl rfl rfl rfl rfl rfl ?_
 refine OKS.r rfl rfl rfl rfl (fun _ => Runs.build (pv := [(0, .slice pA0 p0.length pc0), (2, .int .u32 17)]) (z := [.slice none 0 0, .int .i64 0, .int .u32 0]) (cs := [.slice pA0 p0.length pc0, .int .i64 0, .int .u32 17]) rfl (mapcons2 rfl (mapcons2 rfl mapnil2)) Try.zeroValue141 places141 rfl rfl) ?_
 refine OKS.box (cs := [.slice pA0 p0.length pc0, .int .i64 0, .int .u32 17]) rfl rfl rfl rfl rfl rfl (by rfl) hS ?_
 intro W1 b2 hS3
 refine OKS.ra rfl rfl rfl rfl rfl rfl ?_
 refine OKS.e ?_
 refine thenQ_n ?_
 refine CK.ret ?_
 cases hm
 exact ⟨rfl, _, (res1 rfl), φ, _, hS3, b2, pA0, pc0, rfl, rfl, ha0⟩

set_option maxHeartbeats 4000000 in
theorem w_klisterkit_Deck_Draw (p0 : T_klisterkit_Deck) (pb0 : Nat) (pA0_0 : Option Addr) (pc0_0 : Nat) (p1 : Int) (w : World) (φ : PHeap) (hS : St ⟨w, [.blk pb0 141 [.slice pA0_0 p0.bytes.length pc0_0, .int .i64 p0.next, .int .u32 p0.state]], φ⟩ φ [.blk pb0 141 [.slice pA0_0 p0.bytes.length pc0_0, .int .i64 p0.next, .int .u32 p0.state]] w) (ha0 : Sl φ 1 pA0_0 pc0_0 p0.bytes.length (List.flatMap encB8 p0.bytes)) {r : Int × T_klisterkit_Deck} (hm : m_klisterkit_Deck_Draw p0 p1 = some r) : Gv Try.prog 29 [.pointer (some ⟨pb0, 0, none⟩), .int .i64 p1] w (RetS w [.blk pb0 141 [.slice pA0_0 p0.bytes.length pc0_0, .int .i64 p0.next, .int .u32 p0.state]] φ (fun φ_ L_ v => ∃ (Ao00 : Option Addr) (co00 : Nat), v = .int .i64 r.1 ∧ L_ = [.blk pb0 141 [.slice Ao00 r.2.bytes.length co00, .int .i64 r.2.next, .int .u32 r.2.state]] ∧ Sl φ_ 1 Ao00 co00 r.2.bytes.length (List.flatMap encB8 r.2.bytes))) := by
 unfold m_klisterkit_Deck_Draw at hm
 refine Gv.of Try.func29 rfl Try.ntmps29 Try.results29 rfl ?_
 refine CK.seq ?_
 refine CK.reg (ks := []) (.fl 0 (.nil)) rfl ?_
 refine OKS.ra rfl rfl rfl rfl rfl rfl ?_
 refine OKS.e ?_
 refine thenQ_n ?_
 refine CK.seq ?_
 refine CK.seq ?_
 refine CK.reg (ks := []) (.fl 0 (.fl 1 (.fl 2 (.fl 3 (.fl 4 (.fl 5 (.fl 6 (.fl 7 (.fl 8 (.fl 9 (.nil))))))))))) rfl ?_
 refine OKS.rm rfl rfl rfl rfl rfl rfl ?_
 refine OKS.r rfl rfl rfl rfl (fun _ => Runs.leq rfl rfl rfl) ?_
 refine OKS.rm rfl rfl rfl rfl rfl rfl ?_
 by_cases c2 : p1 ≤ 1
 ·have hm3 := hm; rw [if_pos c2] at hm3; replace c2 := Hid.mk c2
  refine OKS.p rfl rfl rfl (wantedN rfl rfl (decT c2.out) rfl) ?_
  refine OKS.p rfl rfl rfl (wantedN rfl rfl (decT c2.out) rfl) ?_
  refine OKS.p rfl rfl rfl (wantedN rfl rfl (decT c2.out) rfl) ?_
  refine OKS.p rfl rfl rfl (wantedN rfl rfl (decT c2.out) rfl) ?_
  refine OKS.p rfl rfl rfl (wantedN rfl rfl (decT c2.out) rfl) ?_
  refine OKS.p rfl rfl rfl (wantedN rfl rfl (decT c2.out) rfl) ?_
  refine OKS.r rfl rfl rfl rfl (fun _ => Runs.pickT rfl (decT c2.out) rfl) ?_
  refine OKS.e ?_
  refine thenQ_n ?_
  refine CK.condT rfl ?_
  refine CK.seq ?_
  refine CK.reg (ks := []) (.fl 0 (.nil)) rfl ?_
  refine OKS.ra rfl rfl rfl rfl rfl rfl ?_
  refine OKS.e ?_
  refine thenQ_n ?_
  refine CK.ret ?_
  refine thenQ_r ?_
  cases hm3
  exact ⟨rfl, _, (res1 rfl), φ, _, hS, pA0_0, pc0_0, rfl, rfl, ha0⟩
 ·have hm4 := hm; rw [if_neg c2] at hm4; replace c2 := Hid.mk c2
  refine OKS.rm rfl rfl rfl (wantedY rfl rfl (decF c2.out)) rfl rfl ?_
  refine OKS.r rfl rfl rfl (wantedY rfl rfl (decF c2.out)) (fun _ => Runs.nilp rfl rfl) ?_
  refine OKS.r rfl rfl rfl (wantedY rfl rfl (decF c2.out)) (fun _ => Runs.fa rfl rfl Try.runUnderlying141 rfl Try.sizeOf59) ?_
  refine OKS.m rfl rfl rfl (wantedY rfl rfl (decF c2.out)) (hS.ldB (j := 0) rfl rfl rfl Try.isAgg59 (v := .slice pA0_0 p0.bytes.length pc0_0) rfl) rfl ?_
  refine OKS.r rfl rfl rfl (wantedY rfl rfl (decF c2.out)) (fun _ => Runs.len rfl rfl Try.runUnderlying59) ?_
  refine OKS.r rfl rfl rfl (wantedY rfl rfl (decF c2.out)) (fun _ => Runs.eql rfl rfl rfl) ?_
  refine OKS.r rfl rfl rfl rfl (fun _ => Runs.pickF rfl (decF c2.out) rfl) ?_
  refine OKS.e ?_
  refine thenQ_n ?_
  by_cases c5 : (↑p0.bytes.length : Int) = 0
  ·have hm6 := hm4; rw [if_pos c5] at hm6; replace c5 := Hid.mk c5
   refine CK.condT (decT c5.out) ?_
   refine CK.seq ?_
   refine CK.reg (ks := []) (.fl 0 (.nil)) rfl ?_
   refine OKS.ra rfl rfl rfl rfl rfl rfl ?_
   refine OKS.e ?_
   refine thenQ_n ?_
   refine CK.ret ?_
   refine thenQ_r ?_
   cases hm6
   exact ⟨rfl, _, (res1 rfl), φ, _, hS, pA0_0, pc0_0, rfl, rfl, ha0⟩
  ·have hm7 := hm4; rw [if_neg c5] at hm7; replace c5 := Hid.mk c5
   refine CK.condF (decF c5.out) ?_
   refine CK.skip ?_
   refine thenQ_n ?_
   refine CK.seq ?_
   refine CK.anyOrd Try.mixed [3, 3, 3, 1, 3, 3, 3, 1, 3, 3, 3, 1, 3, 3, 3, 1, 3, 3, 3, 3, 1, 3, 3, 3, 1, 3, 3, 3, 3, 3] (.fl 0 (.fl 1 (.fl 2 (.fl 3 (.fl 4 (.fl 5 (.fl 6 (.fl 7 (.fl 8 (.fl 9 (.fl 10 (.fl 11 (.fl 12 (.fl 13 (.fl 14 (.fl 15 (.fl 16 (.fl 17 (.fl 18 (.fl 19 (.fl 20 (.fl 21 (.fl 22 (.fl 23 (.fl 24 (.fl 25 (.fl 26 (.fl 27 (.fl 28 (.fl 29 (.nil))))))))))))))))))))))))))))))) (by kernel_rfl) ?_
   have hS8 := hS.drew
   generalize hw_W9 : ({ w with drawn := w.drawn + 1 } : World) = W9 at hS8 ⊢
   refine OKS.rm rfl rfl rfl rfl rfl rfl ?_
   refine OKS.r rfl rfl rfl rfl (fun _ => Runs.nilp rfl rfl) ?_
   refine OKS.r rfl rfl rfl rfl (fun _ => Runs.fa rfl rfl Try.runUnderlying141 rfl Try.sizeOf59) ?_
   refine OKS.m rfl rfl rfl rfl (hS8.ldB (j := 0) rfl rfl rfl Try.isAgg59 (v := .slice pA0_0 p0.bytes.length pc0_0) rfl) rfl ?_
   refine OKS.rm rfl rfl rfl rfl rfl rfl ?_
   refine OKS.r rfl rfl rfl rfl (fun _ => Runs.nilp rfl rfl) ?_
   refine OKS.r rfl rfl rfl rfl (fun _ => Runs.fa rfl rfl Try.runUnderlying141 rfl Try.sizeOf3) ?_
   refine OKS.m rfl rfl rfl rfl (hS8.ldB (j := 0) rfl rfl rfl Try.isAgg3 (v := .int .i64 p0.next) rfl) rfl ?_
   refine OKS.rm rfl rfl rfl rfl rfl rfl ?_
   refine OKS.r rfl rfl rfl rfl (fun _ => Runs.nilp rfl rfl) ?_
   refine OKS.r rfl rfl rfl rfl (fun _ => Runs.fa rfl rfl Try.runUnderlying141 rfl Try.sizeOf59) ?_
   refine OKS.m rfl rfl rfl rfl (hS8.ldB (j := 0) rfl rfl rfl Try.isAgg59 (v := .slice pA0_0 p0.bytes.length pc0_0) rfl) rfl ?_
   refine OKS.r rfl rfl rfl rfl (fun _ => Runs.len rfl rfl Try.runUnderlying59) ?_
   have q := bnd hm7
   obtain ⟨x10, h11, hm12⟩ := q
   refine OKS.r rfl rfl rfl rfl (fun _ => Runs.rem rfl rfl rfl h11) ?_
   have q := bnd hm12
   obtain ⟨x13, h14, hm15⟩ := q
   have q := ha0.el (fun _ => rfl) (idx_get h14)
   obtain ⟨b16, off17, hA18, hC19⟩ := q
   refine OKS.r rfl rfl rfl rfl (fun _ => Runs.iaI rfl rfl hA18 rfl Try.runUnderlying59 Try.sizeOf5 (idx_lo h14) (idx_hi h14)) ?_
   refine OKS.m rfl rfl rfl rfl (hS8.ldC (f := 0) hC19 (v := .int .u8 x13) rfl rfl Try.isAgg5 rfl) rfl ?_
   refine OKS.r rfl rfl rfl rfl (fun _ => Runs.cvu rfl rfl Try.runUnderlying5 Try.runUnderlying139 rfl rfl) ?_
   refine OKS.rm rfl rfl rfl rfl rfl rfl ?_
   refine OKS.r rfl rfl rfl rfl (fun _ => Runs.nilp rfl rfl) ?_
   refine OKS.r rfl rfl rfl rfl (fun _ => Runs.fa rfl rfl Try.runUnderlying141 rfl Try.sizeOf3) ?_
   refine OKS.m rfl rfl rfl rfl (hS8.ldB (j := 0) rfl rfl rfl Try.isAgg3 (v := .int .i64 p0.next) rfl) rfl ?_
   refine OKS.rm rfl rfl rfl rfl rfl rfl ?_
   refine OKS.r rfl rfl rfl rfl (fun _ => Runs.nilp rfl rfl) ?_
   refine OKS.r rfl rfl rfl rfl (fun _ => Runs.fa rfl rfl Try.runUnderlying141 rfl Try.sizeOf59) ?_
   refine OKS.m rfl rfl rfl rfl (hS8.ldB (j := 0) rfl rfl rfl Try.isAgg59 (v := .slice pA0_0 p0.bytes.length pc0_0) rfl) rfl ?_
   refine OKS.r rfl rfl rfl rfl (fun _ => Runs.len rfl rfl Try.runUnderlying59) ?_
   have q := bnd hm15
   obtain ⟨x20, h21, hm22⟩ := q
   refine OKS.r rfl rfl rfl rfl (fun _ => Runs.quo rfl rfl rfl h21) ?_
   refine OKS.r rfl rfl rfl rfl (fun _ => Runs.cvu rfl rfl Try.runUnderlying3 Try.runUnderlying139 rfl rfl) ?_
   refine OKS.ra rfl rfl rfl rfl rfl rfl ?_
   refine OKS.ra rfl rfl rfl rfl rfl rfl ?_
   refine OKS.e ?_
   refine thenQ_n ?_
   refine CK.seq ?_
   refine CK.fresh fun σ23 hσ24 => ?_
   have f25 : σ23 0 = .pointer (some ⟨pb0, 0, none⟩) := (hσ24 0).trans rfl
   have f26 : σ23 1 = .int .i64 p1 := (hσ24 1).trans rfl
   have f27 : σ23 5 = .int .u32 (wu32 x13) := (hσ24 5).trans rfl
   have f28 : σ23 6 = .int .u32 (wu32 x20) := (hσ24 6).trans rfl
   clear hσ24
   refine CK.reg (ks := []) (.fl 0 (.fl 1 (.fl 2 (.fl 3 (.fl 4 (.fl 5 (.fl 6 (.fx 7 (.nil) .stop)))))))) rfl ?_
   refine OKS.rm rfl rfl rfl rfl rfl f25 ?_
   refine OKS.r rfl rfl rfl rfl (fun _ => Runs.nilp rfl rfl) ?_
   refine OKS.r rfl rfl rfl rfl (fun _ => Runs.fa rfl rfl Try.runUnderlying141 rfl Try.sizeOf3) ?_
   refine OKS.m rfl rfl rfl rfl (hS8.ldB (j := 0) rfl rfl rfl Try.isAgg3 (v := .int .i64 p0.next) rfl) rfl ?_
   refine OKS.r rfl rfl rfl rfl (fun _ => Runs.addw rfl rfl rfl) ?_
   refine OKS.r rfl rfl rfl rfl (fun _ => Runs.nilp rfl rfl) ?_
   refine OKS.r rfl rfl rfl rfl (fun _ => Runs.fa rfl rfl Try.runUnderlying141 rfl Try.sizeOf3) ?_
   refine OKS.st (j := 0) (vs := [.int .i64 (w64 (p0.next + 1))]) rfl rfl rfl rfl hS8 rfl rfl rfl rfl Try.sizeOf3 (Nat.le_of_ble_eq_true rfl) rfl rfl rfl ?_
   intro W29 hS30
   have hS31 : St ⟨w, [.blk pb0 141 [.slice pA0_0 p0.bytes.length pc0_0, .int .i64 p0.next, .int .u32 p0.state]], φ⟩ φ [.blk pb0 141 [.slice pA0_0 p0.bytes.length pc0_0, .int .i64 (w64 (p0.next + 1)), .int .u32 p0.state]] W29 := hS30
   refine OKS.e ?_
   refine thenQ_n ?_
   refine CK.seq ?_
   refine CK.reg (ks := []) (.fl 0 (.fl 1 (.fl 2 (.fl 3 (.fl 4 (.fl 5 (.fl 6 (.fl 7 (.fl 8 (.fl 9 (.fl 10 (.fl 11 (.fl 12 (.fl 13 (.fl 14 (.fx 15 (.nil) .stop)))))))))))))))) rfl ?_
   refine OKS.rm rfl rfl rfl rfl rfl f25 ?_
   refine OKS.rm rfl rfl rfl rfl rfl f25 ?_
   refine OKS.r rfl rfl rfl rfl (fun _ => Runs.nilp rfl rfl) ?_
   refine OKS.r rfl rfl rfl rfl (fun _ => Runs.fa rfl rfl Try.runUnderlying141 rfl Try.sizeOf139) ?_
   refine OKS.m rfl rfl rfl rfl (hS31.ldB (j := 0) rfl rfl rfl Try.isAgg139 (v := .int .u32 p0.state) rfl) rfl ?_
   refine OKS.r rfl rfl rfl rfl (fun _ => Runs.mulu rfl rfl rfl) ?_
   refine OKS.rm rfl rfl rfl rfl rfl f27 ?_
   refine OKS.r rfl rfl rfl rfl (fun _ => Runs.addu rfl rfl rfl) ?_
   refine OKS.rm rfl rfl rfl rfl rfl f28 ?_
   refine OKS.r rfl rfl rfl rfl (fun _ => Runs.mulu rfl rfl rfl) ?_
   refine OKS.r rfl rfl rfl rfl (fun _ => Runs.addu rfl rfl rfl) ?_
   refine OKS.r rfl rfl rfl rfl (fun _ => Runs.addu rfl rfl rfl) ?_
   have q := bnd hm22
   obtain ⟨x32, h33, hm34⟩ := q
   refine OKS.r rfl rfl rfl rfl (fun _ => Runs.rem rfl rfl rfl h33) ?_
   refine OKS.r rfl rfl rfl rfl (fun _ => Runs.nilp rfl rfl) ?_
   refine OKS.r rfl rfl rfl rfl (fun _ => Runs.fa rfl rfl Try.runUnderlying141 rfl Try.sizeOf139) ?_
   refine OKS.st (j := 0) (vs := [.int .u32 x32]) rfl rfl rfl rfl hS31 rfl rfl rfl rfl Try.sizeOf139 (Nat.le_of_ble_eq_true rfl) rfl rfl rfl ?_
   intro W35 hS36
   have hS37 : St ⟨w, [.blk pb0 141 [.slice pA0_0 p0.bytes.length pc0_0, .int .i64 p0.next, .int .u32 p0.state]], φ⟩ φ [.blk pb0 141 [.slice pA0_0 p0.bytes.length pc0_0, .int .i64 (w64 (p0.next + 1)), .int .u32 x32]] W35 := hS36
   refine OKS.e ?_
   refine thenQ_n ?_
   refine CK.seq ?_
   refine CK.seq ?_
   refine CK.reg (ks := []) (.fl 0 (.fl 1 (.fl 2 (.fl 3 (.fl 4 (.fl 5 (.nil))))))) rfl ?_
   refine OKS.rm rfl rfl rfl rfl rfl f28 ?_
   refine OKS.r rfl rfl rfl rfl (fun _ => Runs.eql rfl rfl rfl) ?_
   refine OKS.rm rfl rfl rfl rfl rfl rfl ?_
   by_cases c38 : (wu32 x20) = 0
   ·have hm39 := hm34; rw [if_pos c38] at hm39; replace c38 := Hid.mk c38
    refine OKS.rm rfl rfl rfl (wantedY rfl rfl (decT c38.out)) rfl f26 ?_
    refine OKS.r rfl rfl rfl (wantedY rfl rfl (decT c38.out)) (fun _ => Runs.leq rfl rfl rfl) ?_
    refine OKS.r rfl rfl rfl rfl (fun _ => Runs.pickT rfl (decT c38.out) rfl) ?_
    refine OKS.e ?_
    refine thenQ_n ?_
    by_cases c40 : p1 ≤ 256
    ·have hm41 := hm39; rw [if_pos c40] at hm41; replace c40 := Hid.mk c40
     refine CK.condT (decT c40.out) ?_
     refine CK.seq ?_
     refine CK.reg (ks := []) (.fl 0 (.fl 1 (.fl 2 (.fl 3 (.fl 4 (.nil)))))) rfl ?_
     refine OKS.rm rfl rfl rfl rfl rfl f27 ?_
     refine OKS.r rfl rfl rfl rfl (fun _ => Runs.cvw rfl rfl Try.runUnderlying139 Try.runUnderlying3 rfl rfl) ?_
     refine OKS.rm rfl rfl rfl rfl rfl f26 ?_
     have q := bnd hm41
     obtain ⟨x42, h43, hm44⟩ := q
     refine OKS.r rfl rfl rfl rfl (fun _ => Runs.rem rfl rfl rfl h43) ?_
     refine OKS.ra rfl rfl rfl rfl rfl rfl ?_
     refine OKS.e ?_
     refine thenQ_n ?_
     refine CK.ret ?_
     refine thenQ_r ?_
     cases hm44
     exact ⟨rfl, _, (res1 rfl), φ, _, hS37, pA0_0, pc0_0, rfl, rfl, ha0⟩
    ·have hm45 := hm39; rw [if_neg c40] at hm45; replace c40 := Hid.mk c40
     refine CK.condF (decF c40.out) ?_
     refine CK.skip ?_
     refine thenQ_n ?_
     refine CK.seq ?_
     refine CK.reg (ks := []) (.fl 0 (.fl 1 (.fl 2 (.fl 3 (.fl 4 (.fl 5 (.fl 6 (.fl 7 (.fl 8 (.fl 9 (.fl 10 (.nil)))))))))))) rfl ?_
     refine OKS.rm rfl rfl rfl rfl rfl f25 ?_
     refine OKS.r rfl rfl rfl rfl (fun _ => Runs.nilp rfl rfl) ?_
     refine OKS.r rfl rfl rfl rfl (fun _ => Runs.fa rfl rfl Try.runUnderlying141 rfl Try.sizeOf139) ?_
     refine OKS.m rfl rfl rfl rfl (hS37.ldB (j := 0) rfl rfl rfl Try.isAgg139 (v := .int .u32 x32) rfl) rfl ?_
     refine OKS.r rfl rfl rfl rfl (fun _ => Runs.mulu rfl rfl rfl) ?_
     refine OKS.rm rfl rfl rfl rfl rfl f27 ?_
     refine OKS.r rfl rfl rfl rfl (fun _ => Runs.addu rfl rfl rfl) ?_
     refine OKS.r rfl rfl rfl rfl (fun _ => Runs.cvw rfl rfl Try.runUnderlying139 Try.runUnderlying3 rfl rfl) ?_
     refine OKS.rm rfl rfl rfl rfl rfl f26 ?_
     have q := bnd hm45
     obtain ⟨x46, h47, hm48⟩ := q
     refine OKS.r rfl rfl rfl rfl (fun _ => Runs.rem rfl rfl rfl h47) ?_
     refine OKS.ra rfl rfl rfl rfl rfl rfl ?_
     refine OKS.e ?_
     refine thenQ_n ?_
     refine CK.ret ?_
     cases hm48
     exact ⟨rfl, _, (res1 rfl), φ, _, hS37, pA0_0, pc0_0, rfl, rfl, ha0⟩
   ·have hm49 := hm34; rw [if_neg c38] at hm49; replace c38 := Hid.mk c38
    refine OKS.p rfl rfl rfl (wantedN rfl rfl (decF c38.out) rfl) ?_
    refine OKS.p rfl rfl rfl (wantedN rfl rfl (decF c38.out) rfl) ?_
    refine OKS.r rfl rfl rfl rfl (fun _ => Runs.pickF rfl (decF c38.out) rfl) ?_
    refine OKS.e ?_
    refine thenQ_n ?_
    refine CK.condF rfl ?_
    refine CK.skip ?_
    refine thenQ_n ?_
    refine CK.seq ?_
    refine CK.reg (ks := []) (.fl 0 (.fl 1 (.fl 2 (.fl 3 (.fl 4 (.fl 5 (.fl 6 (.fl 7 (.fl 8 (.fl 9 (.fl 10 (.nil)))))))))))) rfl ?_
    refine OKS.rm rfl rfl rfl rfl rfl f25 ?_
    refine OKS.r rfl rfl rfl rfl (fun _ => Runs.nilp rfl rfl) ?_
    refine OKS.r rfl rfl rfl rfl (fun _ => Runs.fa rfl rfl Try.runUnderlying141 rfl Try.sizeOf139) ?_
    refine OKS.m rfl rfl rfl rfl (hS37.ldB (j := 0) rfl rfl rfl Try.isAgg139 (v := .int .u32 x32) rfl) rfl ?_
    refine OKS.r rfl rfl rfl rfl (fun _ => Runs.mulu rfl rfl rfl) ?_
    refine OKS.rm rfl rfl rfl rfl rfl f27 ?_
    refine OKS.r rfl rfl rfl rfl (fun _ => Runs.addu rfl rfl rfl) ?_
    refine OKS.r rfl rfl rfl rfl (fun _ => Runs.cvw rfl rfl Try.runUnderlying139 Try.runUnderlying3 rfl rfl) ?_
    refine OKS.rm rfl rfl rfl rfl rfl f26 ?_
    have q := bnd hm49
    obtain ⟨x50, h51, hm52⟩ := q
    refine OKS.r rfl rfl rfl rfl (fun _ => Runs.rem rfl rfl rfl h51) ?_
    refine OKS.ra rfl rfl rfl rfl rfl rfl ?_
    refine OKS.e ?_
    refine thenQ_n ?_
    refine CK.ret ?_
    cases hm52
    exact ⟨rfl, _, (res1 rfl), φ, _, hS37, pA0_0, pc0_0, rfl, rfl, ha0⟩

set_option maxHeartbeats 4000000 in
theorem w_klisterkit_Deck_Between (p0 : T_klisterkit_Deck) (pb0 : Nat) (pA0_0 : Option Addr) (pc0_0 : Nat) (p1 : Int) (p2 : Int) (w : World) (φ : PHeap) (hS : St ⟨w, [.blk pb0 141 [.slice pA0_0 p0.bytes.length pc0_0, .int .i64 p0.next, .int .u32 p0.state]], φ⟩ φ [.blk pb0 141 [.slice pA0_0 p0.bytes.length pc0_0, .int .i64 p0.next, .int .u32 p0.state]] w) (ha0 : Sl φ 1 pA0_0 pc0_0 p0.bytes.length (List.flatMap encB8 p0.bytes)) {r : Int × T_klisterkit_Deck} (hm : m_klisterkit_Deck_Between p0 p1 p2 = some r) : Gv Try.prog 30 [.pointer (some ⟨pb0, 0, none⟩), .int .i64 p1, .int .i64 p2] w (RetS w [.blk pb0 141 [.slice pA0_0 p0.bytes.length pc0_0, .int .i64 p0.next, .int .u32 p0.state]] φ (fun φ_ L_ v => ∃ (Ao00 : Option Addr) (co00 : Nat), v = .int .i64 r.1 ∧ L_ = [.blk pb0 141 [.slice Ao00 r.2.bytes.length co00, .int .i64 r.2.next, .int .u32 r.2.state]] ∧ Sl φ_ 1 Ao00 co00 r.2.bytes.length (List.flatMap encB8 r.2.bytes))) := by
 unfold m_klisterkit_Deck_Between at hm
 refine Gv.of Try.func30 rfl Try.ntmps30 Try.results30 rfl ?_
 refine CK.seq ?_
 refine CK.reg (ks := []) (.fl 0 (.nil)) rfl ?_
 refine OKS.ra rfl rfl rfl rfl rfl rfl ?_
 refine OKS.e ?_
 refine thenQ_n ?_
 refine CK.seq ?_
 refine CK.reg (ks := []) (.fl 0 (.fl 1 (.fl 2 (.fl 3 (.fl 4 (.fl 5 (.fx 6 (.fl 7 (.fl 8 (.nil))) .stop))))))) rfl ?_
 refine OKS.rm rfl rfl rfl rfl rfl rfl ?_
 refine OKS.rm rfl rfl rfl rfl rfl rfl ?_
 refine OKS.rm rfl rfl rfl rfl rfl rfl ?_
 refine OKS.rm rfl rfl rfl rfl rfl rfl ?_
 refine OKS.r rfl rfl rfl rfl (fun _ => Runs.subw rfl rfl rfl) ?_
 refine OKS.r rfl rfl rfl rfl (fun _ => Runs.addw rfl rfl rfl) ?_
 have q := bnd hm
 obtain ⟨⟨x2, x3⟩, h4, hm5⟩ := q
 try dsimp only at hm5
 refine OKS.callH 1 rfl rfl rfl rfl (Enters.mk rfl rfl Try.call29 (mapcons rfl (mapcons rfl mapnil)) rfl) hS (fun hs => w_klisterkit_Deck_Draw p0 pb0 pA0_0 pc0_0 (w64 ((w64 (p2 - p1)) + 1)) w φ hs ha0 h4) (.inl rfl) ?_
 rintro φ6 L7 v8 W9 le10 hS11 ⟨A12, c13, rfl, rfl, h14⟩
 have hS15 : St ⟨w, [.blk pb0 141 [.slice pA0_0 p0.bytes.length pc0_0, .int .i64 p0.next, .int .u32 p0.state]], φ⟩ φ6 [.blk pb0 141 [.slice A12 x3.bytes.length c13, .int .i64 x3.next, .int .u32 x3.state]] W9 := hS11
 refine OKS.r rfl rfl rfl rfl (fun _ => Runs.addw rfl rfl rfl) ?_
 refine OKS.ra rfl rfl rfl rfl rfl rfl ?_
 refine OKS.e ?_
 refine thenQ_n ?_
 refine CK.ret ?_
 cases hm5
 exact ⟨rfl, _, (res1 rfl), φ6, _, hS15, A12, c13, rfl, rfl, h14⟩

set_option maxHeartbeats 4000000 in
theorem w_klisterlaw03_span (p0 : Int) (p1 : Int) (w : World) (φ : PHeap) (hS : St ⟨w, [], φ⟩ φ [] w)  {r : T_api_Span} (hm : m_klisterlaw03_span p0 p1 = some r) : Gv Try.prog 23 [.int .i64 p0, .int .i64 p1] w (RetS w [] φ (fun φ_ L_ v => v = .agg #[.int .i64 r.Lo, .int .i64 r.Hi] ∧ L_ = [])) := by
 unfold m_klisterlaw03_span at hm
 refine Gv.of Try.func23 rfl Try.ntmps23 Try.results23 rfl ?_
 refine CK.seq ?_
 refine CK.reg (ks := []) (.fx 0 (.nil) .stop) rfl ?_
 refine OKS.alloc (cs := [.int .i64 0, .int .i64 0]) rfl rfl rfl rfl rfl Try.zeroValue29 rfl hS ?_
 intro W1 b2 hS3
 refine OKS.e ?_
 refine thenQ_n ?_
 refine CK.seq ?_
 refine CK.reg (ks := []) (.fl 0 (.fl 1 (.fl 2 (.fx 3 (.nil) .stop)))) rfl ?_
 refine OKS.rm rfl rfl rfl rfl rfl rfl ?_
 refine OKS.rm rfl rfl rfl rfl rfl rfl ?_
 refine OKS.r rfl rfl rfl rfl (fun _ => Runs.build (pv := [(0, .int .i64 p0), (1, .int .i64 p1)]) (z := [.int .i64 0, .int .i64 0]) (cs := [.int .i64 p0, .int .i64 p1]) rfl (mapcons2 rfl (mapcons2 rfl mapnil2)) Try.zeroValue29 places29 rfl rfl) ?_
 refine OKS.st (j := 0) (vs := [.int .i64 p0, .int .i64 p1]) rfl rfl rfl rfl hS3 rfl rfl rfl rfl Try.sizeOf29 (Nat.le_of_ble_eq_true rfl) rfl rfl rfl ?_
 intro W5 hS6
 have hS7 : St ⟨w, [], φ⟩ φ [.blk b2 29 [.int .i64 p0, .int .i64 p1]] W5 := hS6
 refine OKS.e ?_
 refine thenQ_n ?_
 refine CK.ret ?_
 cases hm
 exact ⟨rfl, _, (resL1 (v := .agg #[.int .i64 p0, .int .i64 p1]) ⟨⟨_, rfl, (ldvarA Try.isAgg29 Try.sizeOf29 (hS7.blkAt (k := 0) rfl) (vs := [.int .i64 p0, .int .i64 p1]) rfl rfl)⟩, trivial⟩), φ, _, (hS7.pick [] _ (by decide) rfl), rfl, rfl⟩

set_option maxHeartbeats 4000000 in
theorem w_klisterlaw03_Counted (p0 : T_klisterkit_Deck) (pb0 : Nat) (pA0_0 : Option Addr) (pc0_0 : Nat) (p1 : Int) (p2 : Int) (w : World) (φ : PHeap) (hS : St ⟨w, [.blk pb0 141 [.slice pA0_0 p0.bytes.length pc0_0, .int .i64 p0.next, .int .u32 p0.state]], φ⟩ φ [.blk pb0 141 [.slice pA0_0 p0.bytes.length pc0_0, .int .i64 p0.next, .int .u32 p0.state]] w) (ha0 : Sl φ 1 pA0_0 pc0_0 p0.bytes.length (List.flatMap encB8 p0.bytes)) {r : (List Int) × (List T_target_Sheet) × T_klisterkit_Deck} (hm : m_klisterlaw03_Counted p0 p1 p2 = some r) : Gv Try.prog 27 [.pointer (some ⟨pb0, 0, none⟩), .int .i64 p1, .int .i64 p2] w (RetS w [.blk pb0 141 [.slice pA0_0 p0.bytes.length pc0_0, .int .i64 p0.next, .int .u32 p0.state]] φ (fun φ_ L_ v => ∃ (A0 : Option Addr) (c0 : Nat) (A1 : Option Addr) (c1 : Nat) (Ao00 : Option Addr) (co00 : Nat), v = .tuple #[.slice A0 r.1.length c0, .slice A1 r.2.1.length c1] ∧ L_ = [.row A1 c1 31 4 (List.flatMap encT_target_Sheet r.2.1), .blk pb0 141 [.slice Ao00 r.2.2.bytes.length co00, .int .i64 r.2.2.next, .int .u32 r.2.2.state]] ∧ Sl φ_ 1 A0 c0 r.1.length (List.flatMap encI r.1) ∧ Sl φ_ 1 Ao00 co00 r.2.2.bytes.length (List.flatMap encB8 r.2.2.bytes))) := by
 unfold m_klisterlaw03_Counted at hm
 refine Gv.of Try.func27 rfl Try.ntmps27 Try.results27 rfl ?_
 refine CK.seq ?_
 refine CK.reg (ks := []) (.fl 0 (.fl 1 (.nil))) rfl ?_
 refine OKS.ra rfl rfl rfl rfl rfl rfl ?_
 refine OKS.ra rfl rfl rfl rfl rfl rfl ?_
 refine OKS.e ?_
 refine thenQ_n ?_
 refine CK.seq ?_
 refine CK.reg (ks := []) (.fl 0 (.nil)) rfl ?_
 refine OKS.ra rfl rfl rfl rfl rfl rfl ?_
 refine OKS.e ?_
 refine thenQ_n ?_
 refine CK.seq ?_
 refine CK.seq ?_
 refine CK.reg (ks := []) (.fl 0 (.fl 1 (.fx 2 (.fl 3 (.nil)) .stop))) rfl ?_
 refine OKS.rm rfl rfl rfl rfl rfl rfl ?_
 refine OKS.rm rfl rfl rfl rfl rfl rfl ?_
 have q := bnd hm
 obtain ⟨⟨x2, x3⟩, h4, hm5⟩ := q
 try dsimp only at hm5
 refine OKS.callH 1 rfl rfl rfl rfl (Enters.mk rfl rfl Try.call30 (mapcons rfl (mapcons rfl (mapcons rfl mapnil))) rfl) hS (fun hs => w_klisterkit_Deck_Between p0 pb0 pA0_0 pc0_0 1 p1 w φ hs ha0 h4) (.inl rfl) ?_
 rintro φ6 L7 v8 W9 le10 hS11 ⟨A12, c13, rfl, rfl, h14⟩
 have hS15 : St ⟨w, [.blk pb0 141 [.slice pA0_0 p0.bytes.length pc0_0, .int .i64 p0.next, .int .u32 p0.state]], φ⟩ φ6 [.blk pb0 141 [.slice A12 x3.bytes.length c13, .int .i64 x3.next, .int .u32 x3.state]] W9 := hS11
 refine OKS.rm rfl rfl rfl rfl rfl rfl ?_
 refine OKS.e ?_
 refine thenQ_n ?_
 refine CK.block ?_
 have q := bnd hm5
 obtain ⟨⟨y58, y59, y60, y61⟩, hf55, hm54⟩ := q
 try dsimp only at hm54
 have q := forR'_le hf55
 obtain ⟨hle56, hf57⟩ := q
 replace hle56 := Hid.mk hle56
 refine CK.forN' (fun k53 (l44, x47, x48, l49) σ_ w_ => ∃ (φ_ : PHeap) (A45 : Option Addr) (c46 : Nat) (A50 : Option Addr) (c51 : Nat), σ_ 18 = .int .i64 (↑k53 : Int) ∧ σ_ 0 = .pointer (some ⟨pb0, 0, none⟩) ∧ σ_ 2 = .int .i64 p2 ∧ σ_ 8 = .slice A50 l49.length c51 ∧ σ_ 17 = .int .i64 x2 ∧ PHeap.Le φ6 φ_ ∧ St ⟨w, [.blk pb0 141 [.slice pA0_0 p0.bytes.length pc0_0, .int .i64 p0.next, .int .u32 p0.state]], φ⟩ φ_ [.blk pb0 141 [.slice A45 l44.length c46, .int .i64 x47, .int .u32 x48], .row A50 c51 3 1 (List.flatMap encI l49)] w_ ∧ Sl φ_ 1 A45 c46 l44.length (List.flatMap encB8 l44)) hf57 ?_ ?_ ?_
 ·have hS62 := hS15.nilrow 3 1
  exact ⟨φ6, A12, c13, none, 0, rfl, rfl, rfl, rfl, rfl, (PHeap.Le.refl _), (hS62.pick [1, 0] _ (by decide) rfl), h14⟩
 ·rintro k53 ⟨l44, x47, x48, l49⟩ xx66 σ64 W65 hk69 ⟨φ71, A45, c46, A50, c51, fi70, f74, f75, f76, f77, le72, hS73, h78⟩ hx67
  try dsimp only at hx67
  have c79 : Hid ((↑k53 : Int) < x2) := Hid.mk (lp_lt0 hk69)
  replace hk69 := Hid.mk hk69
  have hi80 : Hid (w64 ((↑k53 : Int) + 1) = (↑(k53 + 1) : Int)) := Hid.mk (by have h1 := hle56.out; have h2 := c79.out; rw [w64_in] <;> omega)
  refine CK.seq ?_
  refine CK.reg (ks := []) (.fl 0 (.nil)) rfl ?_
  refine OKS.r rfl rfl rfl rfl (fun _ => Runs.lss rfl fi70 f77) ?_
  refine OKS.e ?_
  refine thenQ_n ?_
  refine CK.seq ?_
  refine CK.condT (decT c79.out) ?_
  refine CK.skip ?_
  refine thenQ_n ?_
  refine CK.seq ?_
  refine CK.block ?_
  refine CK.reg (ks := []) (.fl 0 (.fl 1 (.fx 2 (.fx 3 (.fx 4 (.fl 5 (.nil)) .stop) .stop) .stop))) rfl ?_
  refine OKS.rm rfl rfl rfl rfl rfl f76 ?_
  refine OKS.rm rfl rfl rfl rfl rfl f74 ?_
  have q := bnd hx67
  obtain ⟨⟨x81, x82⟩, h83, hm84⟩ := q
  try dsimp only at hm84
  refine OKS.callH 1 rfl rfl rfl rfl (Enters.mk rfl rfl Try.call29 (mapcons rfl (mapcons rfl mapnil)) rfl) hS73 (fun hs => w_klisterkit_Deck_Draw (⟨l44, x47, x48⟩ : T_klisterkit_Deck) pb0 A45 c46 6 W65 φ71 hs h78 h83) (.inl rfl) ?_
  rintro φ85 L86 v87 W88 le89 hS90 ⟨A91, c92, rfl, rfl, h93⟩
  have hS94 : St ⟨w, [.blk pb0 141 [.slice pA0_0 p0.bytes.length pc0_0, .int .i64 p0.next, .int .u32 p0.state]], φ⟩ φ85 [.blk pb0 141 [.slice A91 x82.bytes.length c92, .int .i64 x82.next, .int .u32 x82.state], .row A50 c51 3 1 (List.flatMap encI l49)] W88 := hS90
  refine OKS.buildSlice (pv := [(0, .int .i64 x81)]) (zs := [.int .i64 0]) (cs := [.int .i64 x81]) rfl rfl rfl rfl rfl (mapcons2 rfl mapnil2) Try.runUnderlying22 Try.sizeOf3 Try.zeroValue3 rfl rfl rfl rfl rfl hS94 ?_
  intro W95 b96 hS97
  have hS99 : St ⟨w, [.blk pb0 141 [.slice pA0_0 p0.bytes.length pc0_0, .int .i64 p0.next, .int .u32 p0.state]], φ⟩ φ85 [.row (some ⟨b96, 0, none⟩) 1 3 1 (List.flatMap encI [x81]), .blk pb0 141 [.slice A91 x82.bytes.length c92, .int .i64 x82.next, .int .u32 x82.state], .row A50 c51 3 1 (List.flatMap encI l49)] W95 := hS97
  have q := bnd hm84
  obtain ⟨x100, h101, hm102⟩ := q
  refine OKS.append (j := 2) (enc := encI) (xs := l49) (ys := [x81]) (zs := x100) rfl rfl rfl rfl rfl Try.underlying22 info3 rfl rfl rfl rfl rfl rfl hS99 rfl rfl rfl (hS99.srcR (j := 0) rfl (by decide) (flatMap_len (f := encI) (sz := 1) (fun _ => rfl) [x81])) (fun _ => rfl) (fun _ => rfl) h101 rfl ?_
  intro A103 c104 W105 hS106
  have hS107 : St ⟨w, [.blk pb0 141 [.slice pA0_0 p0.bytes.length pc0_0, .int .i64 p0.next, .int .u32 p0.state]], φ⟩ φ85 [.row (some ⟨b96, 0, none⟩) 1 3 1 (List.flatMap encI [x81]), .blk pb0 141 [.slice A91 x82.bytes.length c92, .int .i64 x82.next, .int .u32 x82.state], .row A103 c104 3 1 (List.flatMap encI x100)] W105 := hS106
  refine OKS.ra rfl rfl rfl rfl rfl rfl ?_
  refine OKS.e ?_
  refine blockQ_n ?_
  refine thenQ_n ?_
  refine CK.reg (ks := []) (.fl 0 (.fl 1 (.nil))) rfl ?_
  refine OKS.r rfl rfl rfl rfl (fun _ => Runs.to (Runs.addw rfl fi70 rfl) (congrArg (Value.int .i64) hi80.out)) ?_
  refine OKS.rm rfl rfl rfl rfl rfl rfl ?_
  refine OKS.e ?_
  cases hm102
  exact thenQ_n ⟨rfl, ⟨φ85, A91, c92, A103, c104, rfl, f74, f75, rfl, f77, (le72.trans le89), (hS107.pick [1, 2] _ (by decide) rfl), h93⟩⟩
 ·rintro σ116 W117 ⟨φ132, A128, c129, A130, c131, fi119, f135, f136, f137, f138, le133, hS134, h139⟩
  have c140 : Hid (¬ ((↑((x2 : Int) - 0).toNat : Int) < x2)) := Hid.mk (lp_end0)
  refine CK.seq ?_
  refine CK.reg (ks := []) (.fl 0 (.nil)) rfl ?_
  refine OKS.r rfl rfl rfl rfl (fun _ => Runs.lss rfl fi119 f138) ?_
  refine OKS.e ?_
  refine thenQ_n ?_
  refine CK.seq ?_
  refine CK.condF (decF c140.out) ?_
  refine CK.exit ?_
  refine thenQ_e ?_
  refine thenQ_e ?_
  refine blockQ_h ?_
  refine thenQ_n ?_
  refine CK.seq ?_
  refine CK.reg (ks := []) (.fl 0 (.nil)) rfl ?_
  refine OKS.ra rfl rfl rfl rfl rfl rfl ?_
  refine OKS.e ?_
  refine thenQ_n ?_
  refine CK.seq ?_
  refine CK.seq ?_
  refine CK.reg (ks := []) (.fl 0 (.fx 1 (.fl 2 (.nil)) .stop)) rfl ?_
  refine OKS.rm rfl rfl rfl rfl rfl f135 ?_
  have q := bnd hm54
  obtain ⟨⟨x141, x142⟩, h143, hm144⟩ := q
  try dsimp only at hm144
  refine OKS.callH 1 rfl rfl rfl rfl (Enters.mk rfl rfl Try.call29 (mapcons rfl (mapcons rfl mapnil)) rfl) hS134 (fun hs => w_klisterkit_Deck_Draw (⟨y58, y59, y60⟩ : T_klisterkit_Deck) pb0 A128 c129 9 W117 φ132 hs h139 h143) (.inl rfl) ?_
  rintro φ145 L146 v147 W148 le149 hS150 ⟨A151, c152, rfl, rfl, h153⟩
  have hS154 : St ⟨w, [.blk pb0 141 [.slice pA0_0 p0.bytes.length pc0_0, .int .i64 p0.next, .int .u32 p0.state]], φ⟩ φ145 [.blk pb0 141 [.slice A151 x142.bytes.length c152, .int .i64 x142.next, .int .u32 x142.state], .row A130 c131 3 1 (List.flatMap encI y61)] W148 := hS150
  refine OKS.rm rfl rfl rfl rfl rfl rfl ?_
  refine OKS.e ?_
  refine thenQ_n ?_
  refine CK.block ?_
  have q := hS154.freezeR (k := 1) (n := y61.length) rfl (flatMap_len (f := encI) (sz := 1) (fun _ => rfl) y61) (by decide)
  obtain ⟨φ161, le162, hs163, hS164⟩ := q
  have hS165 : St ⟨w, [.blk pb0 141 [.slice pA0_0 p0.bytes.length pc0_0, .int .i64 p0.next, .int .u32 p0.state]], φ⟩ φ161 [.blk pb0 141 [.slice A151 x142.bytes.length c152, .int .i64 x142.next, .int .u32 x142.state]] W148 := hS164
  have q := bnd hm144
  obtain ⟨⟨y208, y209, y210, y211⟩, hf205, hm204⟩ := q
  try dsimp only at hm204
  have q := forR'_le hf205
  obtain ⟨hle206, hf207⟩ := q
  replace hle206 := Hid.mk hle206
  refine CK.forN' (fun k203 (l194, x197, x198, l199) σ_ w_ => ∃ (φ_ : PHeap) (A195 : Option Addr) (c196 : Nat) (A200 : Option Addr) (c201 : Nat), σ_ 28 = .int .i64 (↑k203 : Int) ∧ σ_ 0 = .pointer (some ⟨pb0, 0, none⟩) ∧ σ_ 2 = .int .i64 p2 ∧ σ_ 8 = .slice A130 y61.length c131 ∧ σ_ 9 = .slice A200 l199.length c201 ∧ σ_ 27 = .int .i64 x141 ∧ PHeap.Le φ161 φ_ ∧ St ⟨w, [.blk pb0 141 [.slice pA0_0 p0.bytes.length pc0_0, .int .i64 p0.next, .int .u32 p0.state]], φ⟩ φ_ [.blk pb0 141 [.slice A195 l194.length c196, .int .i64 x197, .int .u32 x198], .row A200 c201 31 4 (List.flatMap encT_target_Sheet l199)] w_ ∧ Sl φ_ 1 A195 c196 l194.length (List.flatMap encB8 l194)) hf207 ?_ ?_ ?_
  ·have hS212 := hS165.nilrow 31 4
   have h214 := h153.le le162
   exact ⟨φ161, A151, c152, none, 0, rfl, f135, f136, f137, rfl, rfl, (PHeap.Le.refl _), (hS212.pick [1, 0] _ (by decide) rfl), h214⟩
  ·rintro k203 ⟨l194, x197, x198, l199⟩ xx217 σ215 W216 hk220 ⟨φ222, A195, c196, A200, c201, fi221, f225, f226, f227, f228, f229, le223, hS224, h230⟩ hx218
   try dsimp only at hx218
   have c231 : Hid ((↑k203 : Int) < x141) := Hid.mk (lp_lt0 hk220)
   replace hk220 := Hid.mk hk220
   have hi232 : Hid (w64 ((↑k203 : Int) + 1) = (↑(k203 + 1) : Int)) := Hid.mk (by have h1 := hle206.out; have h2 := c231.out; rw [w64_in] <;> omega)
   refine CK.seq ?_
   refine CK.reg (ks := []) (.fl 0 (.nil)) rfl ?_
   refine OKS.r rfl rfl rfl rfl (fun _ => Runs.lss rfl fi221 f229) ?_
   refine OKS.e ?_
   refine thenQ_n ?_
   refine CK.seq ?_
   refine CK.condT (decT c231.out) ?_
   refine CK.skip ?_
   refine thenQ_n ?_
   refine CK.seq ?_
   refine CK.block ?_
   refine CK.seq ?_
   refine CK.reg (ks := []) (.fl 0 (.fl 1 (.fl 2 (.fx 3 (.fl 4 (.nil)) .stop)))) rfl ?_
   refine OKS.rm rfl rfl rfl rfl rfl f225 ?_
   refine OKS.rm rfl rfl rfl rfl rfl f227 ?_
   refine OKS.r rfl rfl rfl rfl (fun _ => Runs.len rfl rfl Try.runUnderlying22) ?_
   have q := bnd hx218
   obtain ⟨⟨x233, x234⟩, h235, hm236⟩ := q
   try dsimp only at hm236
   refine OKS.callH 1 rfl rfl rfl rfl (Enters.mk rfl rfl Try.call29 (mapcons rfl (mapcons rfl mapnil)) rfl) hS224 (fun hs => w_klisterkit_Deck_Draw (⟨l194, x197, x198⟩ : T_klisterkit_Deck) pb0 A195 c196 (↑y61.length : Int) W216 φ222 hs h230 h235) (.inl rfl) ?_
   rintro φ237 L238 v239 W240 le241 hS242 ⟨A243, c244, rfl, rfl, h245⟩
   have hS246 : St ⟨w, [.blk pb0 141 [.slice pA0_0 p0.bytes.length pc0_0, .int .i64 p0.next, .int .u32 p0.state]], φ⟩ φ237 [.blk pb0 141 [.slice A243 x234.bytes.length c244, .int .i64 x234.next, .int .u32 x234.state], .row A200 c201 31 4 (List.flatMap encT_target_Sheet l199)] W240 := hS242
   refine OKS.ra rfl rfl rfl rfl rfl rfl ?_
   refine OKS.e ?_
   refine thenQ_n ?_
   refine CK.seq ?_
   refine CK.reg (ks := []) (.fl 0 (.fl 1 (.fl 2 (.fl 3 (.fl 4 (.fl 5 (.fx 6 (.fl 7 (.fx 8 (.fx 9 (.nil) .stop) .stop)) .stop))))))) rfl ?_
   refine OKS.rm rfl rfl rfl rfl rfl rfl ?_
   refine OKS.rm rfl rfl rfl rfl rfl f225 ?_
   refine OKS.rm rfl rfl rfl rfl rfl rfl ?_
   refine OKS.rm rfl rfl rfl rfl rfl f227 ?_
   refine OKS.r rfl rfl rfl rfl (fun _ => Runs.len rfl rfl Try.runUnderlying22) ?_
   refine OKS.r rfl rfl rfl rfl (fun _ => Runs.subw rfl rfl rfl) ?_
   have q := bnd hm236
   obtain ⟨⟨x247, x248⟩, h249, hm250⟩ := q
   try dsimp only at hm250
   refine OKS.callH 1 rfl rfl rfl rfl (Enters.mk rfl rfl Try.call30 (mapcons rfl (mapcons rfl (mapcons rfl mapnil))) rfl) hS246 (fun hs => w_klisterkit_Deck_Between x234 pb0 A243 c244 x233 (w64 ((↑y61.length : Int) - 1)) W240 φ237 hs h245 h249) (.inl rfl) ?_
   rintro φ251 L252 v253 W254 le255 hS256 ⟨A257, c258, rfl, rfl, h259⟩
   have hS260 : St ⟨w, [.blk pb0 141 [.slice pA0_0 p0.bytes.length pc0_0, .int .i64 p0.next, .int .u32 p0.state]], φ⟩ φ251 [.blk pb0 141 [.slice A257 x248.bytes.length c258, .int .i64 x248.next, .int .u32 x248.state], .row A200 c201 31 4 (List.flatMap encT_target_Sheet l199)] W254 := hS256
   refine OKS.r rfl rfl rfl rfl (fun _ => Runs.build (pv := [(0, .int .i64 x233), (1, .int .i64 x247)]) (z := [.int .i64 0, .int .i64 0, .int .i64 0, .int .i64 0]) (cs := [.int .i64 x233, .int .i64 x247, .int .i64 0, .int .i64 0]) rfl (mapcons2 rfl (mapcons2 rfl mapnil2)) Try.zeroValue31 places31 rfl rfl) ?_
   refine OKS.alloc (cs := [.int .i64 0, .int .i64 0, .int .i64 0, .int .i64 0]) rfl rfl rfl rfl rfl Try.zeroValue31 rfl hS260 ?_
   intro W261 b262 hS263
   refine OKS.st (j := 0) (vs := [.int .i64 x233, .int .i64 x247, .int .i64 0, .int .i64 0]) rfl rfl rfl rfl hS263 rfl rfl rfl rfl Try.sizeOf31 (Nat.le_of_ble_eq_true rfl) rfl rfl rfl ?_
   intro W265 hS266
   have hS267 : St ⟨w, [.blk pb0 141 [.slice pA0_0 p0.bytes.length pc0_0, .int .i64 p0.next, .int .u32 p0.state]], φ⟩ φ251 [.blk b262 31 [.int .i64 x233, .int .i64 x247, .int .i64 0, .int .i64 0], .blk pb0 141 [.slice A257 x248.bytes.length c258, .int .i64 x248.next, .int .u32 x248.state], .row A200 c201 31 4 (List.flatMap encT_target_Sheet l199)] W265 := hS266
   refine OKS.e ?_
   refine thenQ_n ?_
   refine CK.seq ?_
   refine CK.reg (ks := []) (.fl 0 (.nil)) rfl ?_
   refine OKS.ra rfl rfl rfl rfl rfl rfl ?_
   refine OKS.e ?_
   refine thenQ_n ?_
   refine CK.seq ?_
   refine CK.seq ?_
   refine CK.reg (ks := []) (.fl 0 (.fl 1 (.fl 2 (.fl 3 (.fl 4 (.fl 5 (.fl 6 (.fl 7 (.fl 8 (.nil)))))))))) rfl ?_
   refine OKS.rm rfl rfl rfl rfl rfl f227 ?_
   refine OKS.r rfl rfl rfl rfl (fun _ => Runs.fa rfl rfl Try.runUnderlying31 rfl Try.sizeOf3) ?_
   refine OKS.m rfl rfl rfl rfl (hS267.ldB (j := 0) rfl rfl rfl Try.isAgg3 (v := .int .i64 x233) rfl) rfl ?_
   refine OKS.r rfl rfl rfl rfl (fun _ => Runs.fa rfl rfl Try.runUnderlying31 rfl Try.sizeOf3) ?_
   refine OKS.m rfl rfl rfl rfl (hS267.ldB (j := 0) rfl rfl rfl Try.isAgg3 (v := .int .i64 x247) rfl) rfl ?_
   refine OKS.r rfl rfl rfl rfl (fun _ => Runs.addw rfl rfl rfl) ?_
   have q := bnd hm250
   obtain ⟨x268, h269, hm270⟩ := q
   have h280 := hs163.le le223
   have h281 := h280.le le241
   have h282 := h281.le le255
   have q := Sl.cutM (sz := 1) (f := encI) h282 (fun _ => rfl) h269
   obtain ⟨sl279, ha276, hab278, hb277, hn275⟩ := q
   refine OKS.r (v := .slice (if c131 = (x233 : Int).toNat then A130 else Option.map (·.add ((x233 : Int).toNat * 1)) A130) x268.length (c131 - (x233 : Int).toNat)) rfl rfl rfl rfl (fun _ => Runs.to (Runs.slc (sz := 1) (a := x233) (b := (w64 (x247 + 1))) rfl rfl (.inl ⟨_, rfl, rfl⟩) (.inl ⟨_, rfl, rfl⟩) Try.runUnderlying22 Try.sizeOf3 ha276 hab278 hb277 (h282).cap) (by rw [hn275])) ?_
   generalize hA_A272 : (if c131 = (x233 : Int).toNat then A130 else Option.map (·.add ((x233 : Int).toNat * 1)) A130) = A272 at sl279 ⊢
   generalize hc_c273 : c131 - (x233 : Int).toNat = c273 at sl279 ⊢
   refine OKS.r rfl rfl rfl rfl (fun _ => Runs.len rfl rfl Try.runUnderlying22) ?_
   refine OKS.rm rfl rfl rfl rfl rfl rfl ?_
   refine OKS.e ?_
   refine thenQ_n ?_
   refine CK.block ?_
   have q := bnd hm270
   obtain ⟨y294, hf291, hm290⟩ := q
   have q := forR'_le hf291
   obtain ⟨hle292, hf293⟩ := q
   replace hle292 := Hid.mk hle292
   refine CK.forN' (fun k289 x288 σ_ w_ => ∃ (φ_ : PHeap), σ_ 50 = .int .i64 (↑k289 : Int) ∧ σ_ 0 = .pointer (some ⟨pb0, 0, none⟩) ∧ σ_ 2 = .int .i64 p2 ∧ σ_ 8 = .slice A130 y61.length c131 ∧ σ_ 9 = .slice A200 l199.length c201 ∧ σ_ 11 = .pointer (some ⟨b262, 0, none⟩) ∧ σ_ 12 = .int .i64 x288 ∧ σ_ 27 = .int .i64 x141 ∧ σ_ 28 = .int .i64 (↑k203 : Int) ∧ σ_ 48 = .slice A272 x268.length c273 ∧ σ_ 49 = .int .i64 (↑x268.length : Int) ∧ PHeap.Le φ251 φ_ ∧ St ⟨w, [.blk pb0 141 [.slice pA0_0 p0.bytes.length pc0_0, .int .i64 p0.next, .int .u32 p0.state]], φ⟩ φ_ [.blk b262 31 [.int .i64 x233, .int .i64 x247, .int .i64 0, .int .i64 0], .blk pb0 141 [.slice A257 x248.bytes.length c258, .int .i64 x248.next, .int .u32 x248.state], .row A200 c201 31 4 (List.flatMap encT_target_Sheet l199)] w_) hf293 ?_ ?_ ?_
   ·exact ⟨φ251, rfl, f225, f226, f227, f228, rfl, rfl, f229, fi221, rfl, rfl, (PHeap.Le.refl _), hS267⟩
   ·rintro k289 x288 xx297 σ295 W296 hk300 ⟨φ302, fi301, f305, f306, f307, f308, f309, f310, f311, f312, f313, f314, le303, hS304⟩ hx298
    have c315 : Hid ((↑k289 : Int) < (↑x268.length : Int)) := Hid.mk (lp_lt0 hk300)
    replace hk300 := Hid.mk hk300
    have hi316 : Hid (w64 ((↑k289 : Int) + 1) = (↑(k289 + 1) : Int)) := Hid.mk (by have h1 := hle292.out; have h2 := c315.out; rw [w64_in] <;> omega)
    refine CK.seq ?_
    refine CK.reg (ks := []) (.fl 0 (.nil)) rfl ?_
    refine OKS.r rfl rfl rfl rfl (fun _ => Runs.lss rfl fi301 f314) ?_
    refine OKS.e ?_
    refine thenQ_n ?_
    refine CK.seq ?_
    refine CK.condT (decT c315.out) ?_
    refine CK.skip ?_
    refine thenQ_n ?_
    refine CK.seq ?_
    refine CK.block ?_
    refine CK.seq ?_
    refine CK.reg (ks := []) (.fl 0 (.fl 1 (.fl 2 (.nil)))) rfl ?_
    have q := bnd hx298
    obtain ⟨x317, h318, hm319⟩ := q
    have h320 := sl279.le le303
    have q := h320.el (fun _ => rfl) (idx_get h318)
    obtain ⟨b321, off322, hA323, hC324⟩ := q
    refine OKS.r rfl rfl rfl rfl (fun _ => Runs.iaN rfl f313 hA323 fi301 Try.runUnderlying22 Try.sizeOf3 (idx_lt h318)) ?_
    refine OKS.m rfl rfl rfl rfl (hS304.ldC (f := 0) hC324 (v := .int .i64 x317) rfl rfl Try.isAgg3 rfl) rfl ?_
    refine OKS.ra rfl rfl rfl rfl rfl rfl ?_
    refine OKS.e ?_
    refine thenQ_n ?_
    refine CK.reg (ks := []) (.fl 0 (.fl 1 (.fl 2 (.fl 3 (.nil))))) rfl ?_
    refine OKS.rm rfl rfl rfl rfl rfl f310 ?_
    refine OKS.rm rfl rfl rfl rfl rfl rfl ?_
    refine OKS.r rfl rfl rfl rfl (fun _ => Runs.addw rfl rfl rfl) ?_
    refine OKS.ra rfl rfl rfl rfl rfl rfl ?_
    refine OKS.e ?_
    refine blockQ_n ?_
    refine thenQ_n ?_
    refine CK.reg (ks := []) (.fl 0 (.fl 1 (.nil))) rfl ?_
    refine OKS.r rfl rfl rfl rfl (fun _ => Runs.to (Runs.addw rfl fi301 rfl) (congrArg (Value.int .i64) hi316.out)) ?_
    refine OKS.rm rfl rfl rfl rfl rfl rfl ?_
    refine OKS.e ?_
    cases hm319
    exact thenQ_n ⟨rfl, ⟨φ302, rfl, f305, f306, f307, f308, f309, rfl, f311, f312, f313, f314, le303, hS304⟩⟩
   ·rintro σ326 W327 ⟨φ331, fi329, f334, f335, f336, f337, f338, f339, f340, f341, f342, f343, le332, hS333⟩
    have c344 : Hid (¬ ((↑(((↑x268.length : Int) : Int) - 0).toNat : Int) < (↑x268.length : Int))) := Hid.mk (lp_end0)
    refine CK.seq ?_
    refine CK.reg (ks := []) (.fl 0 (.nil)) rfl ?_
    refine OKS.r rfl rfl rfl rfl (fun _ => Runs.lss rfl fi329 f343) ?_
    refine OKS.e ?_
    refine thenQ_n ?_
    refine CK.seq ?_
    refine CK.condF (decF c344.out) ?_
    refine CK.exit ?_
    refine thenQ_e ?_
    refine thenQ_e ?_
    refine blockQ_h ?_
    refine thenQ_n ?_
    refine CK.seq ?_
    refine CK.reg (ks := []) (.fl 0 (.fl 1 (.fl 2 (.fl 3 (.fx 4 (.fl 5 (.fl 6 (.fl 7 (.fl 8 (.fl 9 (.fl 10 (.fx 11 (.fl 12 (.fl 13 (.fx 14 (.fl 15 (.fx 16 (.nil) .stop)) .stop))) .stop))))))) .stop))))) rfl ?_
    refine OKS.rm rfl rfl rfl rfl rfl f339 ?_
    refine OKS.rm rfl rfl rfl rfl rfl f334 ?_
    refine OKS.rm rfl rfl rfl rfl rfl f335 ?_
    refine OKS.r rfl rfl rfl rfl (fun _ => Runs.addw rfl rfl rfl) ?_
    have h345 := h259.le le332
    have q := bnd hm290
    obtain ⟨⟨x346, x347⟩, h348, hm349⟩ := q
    try dsimp only at hm349
    have hS350 : St ⟨w, [.blk pb0 141 [.slice pA0_0 p0.bytes.length pc0_0, .int .i64 p0.next, .int .u32 p0.state]], φ⟩ φ331 [.blk pb0 141 [.slice A257 x248.bytes.length c258, .int .i64 x248.next, .int .u32 x248.state], .blk b262 31 [.int .i64 x233, .int .i64 x247, .int .i64 0, .int .i64 0], .row A200 c201 31 4 (List.flatMap encT_target_Sheet l199)] W327 := hS333.pick [1, 0, 2] _ (by decide) rfl
    refine OKS.callH 1 rfl rfl rfl rfl (Enters.mk rfl rfl Try.call29 (mapcons rfl (mapcons rfl mapnil)) rfl) hS350 (fun hs => w_klisterkit_Deck_Draw x248 pb0 A257 c258 (w64 (p2 + 1)) W327 φ331 hs h345 h348) (.inl rfl) ?_
    rintro φ351 L352 v353 W354 le355 hS356 ⟨A357, c358, rfl, rfl, h359⟩
    have hS360 : St ⟨w, [.blk pb0 141 [.slice pA0_0 p0.bytes.length pc0_0, .int .i64 p0.next, .int .u32 p0.state]], φ⟩ φ351 [.blk pb0 141 [.slice A357 x347.bytes.length c358, .int .i64 x347.next, .int .u32 x347.state], .blk b262 31 [.int .i64 x233, .int .i64 x247, .int .i64 0, .int .i64 0], .row A200 c201 31 4 (List.flatMap encT_target_Sheet l199)] W354 := hS356
    refine OKS.r rfl rfl rfl rfl (fun _ => Runs.subw rfl rfl rfl) ?_
    refine OKS.r rfl rfl rfl rfl (fun _ => Runs.max rfl rfl rfl) ?_
    refine OKS.rm rfl rfl rfl rfl rfl f339 ?_
    refine OKS.rm rfl rfl rfl rfl rfl f334 ?_
    refine OKS.rm rfl rfl rfl rfl rfl f335 ?_
    refine OKS.r rfl rfl rfl rfl (fun _ => Runs.addw rfl rfl rfl) ?_
    have q := bnd hm349
    obtain ⟨⟨x361, x362⟩, h363, hm364⟩ := q
    try dsimp only at hm364
    refine OKS.callH 1 rfl rfl rfl rfl (Enters.mk rfl rfl Try.call29 (mapcons rfl (mapcons rfl mapnil)) rfl) hS360 (fun hs => w_klisterkit_Deck_Draw x347 pb0 A357 c358 (w64 (p2 + 1)) W354 φ351 hs h359 h363) (.inl rfl) ?_
    rintro φ365 L366 v367 W368 le369 hS370 ⟨A371, c372, rfl, rfl, h373⟩
    have hS374 : St ⟨w, [.blk pb0 141 [.slice pA0_0 p0.bytes.length pc0_0, .int .i64 p0.next, .int .u32 p0.state]], φ⟩ φ365 [.blk pb0 141 [.slice A371 x362.bytes.length c372, .int .i64 x362.next, .int .u32 x362.state], .blk b262 31 [.int .i64 x233, .int .i64 x247, .int .i64 0, .int .i64 0], .row A200 c201 31 4 (List.flatMap encT_target_Sheet l199)] W368 := hS370
    refine OKS.r rfl rfl rfl rfl (fun _ => Runs.addw rfl rfl rfl) ?_
    refine OKS.r rfl rfl rfl rfl (fun _ => Runs.min rfl rfl rfl) ?_
    have q := bnd hm364
    obtain ⟨x375, h376, hm377⟩ := q
    refine OKS.callH 0 rfl rfl rfl rfl (Enters.mk rfl rfl Try.call23 (mapcons rfl (mapcons rfl mapnil)) rfl) hS374 (fun hs => w_klisterlaw03_span (max 0 (w64 (y294 - x346))) (min 72 (w64 (y294 + x361))) W368 φ365 hs h376) (.inr rfl) ?_
    rintro φ378 L379 v380 W381 le382 hS383 ⟨rfl, rfl⟩
    have hS384 : St ⟨w, [.blk pb0 141 [.slice pA0_0 p0.bytes.length pc0_0, .int .i64 p0.next, .int .u32 p0.state]], φ⟩ φ378 [.blk pb0 141 [.slice A371 x362.bytes.length c372, .int .i64 x362.next, .int .u32 x362.state], .blk b262 31 [.int .i64 x233, .int .i64 x247, .int .i64 0, .int .i64 0], .row A200 c201 31 4 (List.flatMap encT_target_Sheet l199)] W381 := hS383
    refine OKS.r rfl rfl rfl rfl (fun _ => Runs.fa rfl f338 Try.runUnderlying31 rfl Try.sizeOf29) ?_
    refine OKS.st (j := 1) (vs := [.int .i64 x375.Lo, .int .i64 x375.Hi]) rfl rfl rfl rfl hS384 rfl rfl rfl rfl Try.sizeOf29 (Nat.le_of_ble_eq_true rfl) rfl rfl rfl ?_
    intro W385 hS386
    have hS387 : St ⟨w, [.blk pb0 141 [.slice pA0_0 p0.bytes.length pc0_0, .int .i64 p0.next, .int .u32 p0.state]], φ⟩ φ378 [.blk pb0 141 [.slice A371 x362.bytes.length c372, .int .i64 x362.next, .int .u32 x362.state], .blk b262 31 [.int .i64 x233, .int .i64 x247, .int .i64 x375.Lo, .int .i64 x375.Hi], .row A200 c201 31 4 (List.flatMap encT_target_Sheet l199)] W385 := hS386
    refine OKS.e ?_
    refine thenQ_n ?_
    refine CK.reg (ks := []) (.fl 0 (.fl 1 (.fx 2 (.fx 3 (.fl 4 (.nil)) .stop) .stop))) rfl ?_
    refine OKS.rm rfl rfl rfl rfl rfl f337 ?_
    refine OKS.m rfl rfl rfl rfl (hS387.ldBA (j := 1) rfl rfl f338 Try.isAgg31 Try.sizeOf31 (vs := [.int .i64 x233, .int .i64 x247, .int .i64 x375.Lo, .int .i64 x375.Hi]) rfl rfl) rfl ?_
    refine OKS.buildSlice (pv := [(0, .agg #[.int .i64 x233, .int .i64 x247, .int .i64 x375.Lo, .int .i64 x375.Hi])]) (zs := [.int .i64 0, .int .i64 0, .int .i64 0, .int .i64 0]) (cs := [.int .i64 x233, .int .i64 x247, .int .i64 x375.Lo, .int .i64 x375.Hi]) rfl rfl rfl rfl rfl (mapcons2 rfl mapnil2) Try.runUnderlying23 Try.sizeOf31 Try.zeroValue31 rfl rfl rfl rfl rfl hS387 ?_
    intro W388 b389 hS390
    have hS392 : St ⟨w, [.blk pb0 141 [.slice pA0_0 p0.bytes.length pc0_0, .int .i64 p0.next, .int .u32 p0.state]], φ⟩ φ378 [.row (some ⟨b389, 0, none⟩) 1 31 4 (List.flatMap encT_target_Sheet [(⟨x233, x247, x375⟩ : T_target_Sheet)]), .blk pb0 141 [.slice A371 x362.bytes.length c372, .int .i64 x362.next, .int .u32 x362.state], .blk b262 31 [.int .i64 x233, .int .i64 x247, .int .i64 x375.Lo, .int .i64 x375.Hi], .row A200 c201 31 4 (List.flatMap encT_target_Sheet l199)] W388 := hS390
    have q := bnd hm377
    obtain ⟨x393, h394, hm395⟩ := q
    refine OKS.append (j := 3) (enc := encT_target_Sheet) (xs := l199) (ys := [(⟨x233, x247, x375⟩ : T_target_Sheet)]) (zs := x393) rfl rfl rfl rfl rfl Try.underlying23 info31 rfl rfl rfl rfl rfl rfl hS392 rfl rfl rfl (hS392.srcR (j := 0) rfl (by decide) (flatMap_len (f := encT_target_Sheet) (sz := 4) (fun _ => rfl) [(⟨x233, x247, x375⟩ : T_target_Sheet)])) (fun _ => rfl) (fun _ => rfl) h394 rfl ?_
    intro A396 c397 W398 hS399
    have hS400 : St ⟨w, [.blk pb0 141 [.slice pA0_0 p0.bytes.length pc0_0, .int .i64 p0.next, .int .u32 p0.state]], φ⟩ φ378 [.row (some ⟨b389, 0, none⟩) 1 31 4 (List.flatMap encT_target_Sheet [(⟨x233, x247, x375⟩ : T_target_Sheet)]), .blk pb0 141 [.slice A371 x362.bytes.length c372, .int .i64 x362.next, .int .u32 x362.state], .blk b262 31 [.int .i64 x233, .int .i64 x247, .int .i64 x375.Lo, .int .i64 x375.Hi], .row A396 c397 31 4 (List.flatMap encT_target_Sheet x393)] W398 := hS399
    refine OKS.ra rfl rfl rfl rfl rfl rfl ?_
    refine OKS.e ?_
    refine blockQ_n ?_
    refine thenQ_n ?_
    refine CK.reg (ks := []) (.fl 0 (.fl 1 (.nil))) rfl ?_
    refine OKS.r rfl rfl rfl rfl (fun _ => Runs.to (Runs.addw rfl f341 rfl) (congrArg (Value.int .i64) hi232.out)) ?_
    refine OKS.rm rfl rfl rfl rfl rfl rfl ?_
    refine OKS.e ?_
    cases hm395
    have h409 := h373.le le382
    exact thenQ_n ⟨rfl, ⟨φ378, A371, c372, A396, c397, rfl, f334, f335, f336, rfl, f340, ((((((le223.trans le241).trans le255).trans le332).trans le355).trans le369).trans le382), (hS400.pick [1, 3] _ (by decide) rfl), h409⟩⟩
  ·rintro σ410 W411 ⟨φ426, A422, c423, A424, c425, fi413, f429, f430, f431, f432, f433, le427, hS428, h434⟩
   have c435 : Hid (¬ ((↑((x141 : Int) - 0).toNat : Int) < x141)) := Hid.mk (lp_end0)
   refine CK.seq ?_
   refine CK.reg (ks := []) (.fl 0 (.nil)) rfl ?_
   refine OKS.r rfl rfl rfl rfl (fun _ => Runs.lss rfl fi413 f433) ?_
   refine OKS.e ?_
   refine thenQ_n ?_
   refine CK.seq ?_
   refine CK.condF (decF c435.out) ?_
   refine CK.exit ?_
   refine thenQ_e ?_
   refine thenQ_e ?_
   refine blockQ_h ?_
   refine thenQ_n ?_
   refine CK.seq ?_
   refine CK.reg (ks := []) (.fl 0 (.fl 1 (.fl 2 (.fl 3 (.nil))))) rfl ?_
   refine OKS.rm rfl rfl rfl rfl rfl f431 ?_
   refine OKS.rm rfl rfl rfl rfl rfl f432 ?_
   refine OKS.ra rfl rfl rfl rfl rfl rfl ?_
   refine OKS.ra rfl rfl rfl rfl rfl rfl ?_
   refine OKS.e ?_
   refine thenQ_n ?_
   refine CK.ret ?_
   have h436 := hs163.le le427
   cases hm204
   exact ⟨rfl, _, (res2 rfl rfl), φ426, _, (hS428.pick [1, 0] _ (by decide) rfl), A130, c131, A424, c425, A422, c423, rfl, rfl, h436, h434⟩

set_option maxHeartbeats 4000000 in
theorem w_target_within (p0 : Int) (p1 : Int) (p2 : Int) (w : World) (φ : PHeap) (hS : St ⟨w, [], φ⟩ φ [] w)  {r : Bool} (hm : m_target_within p0 p1 p2 = some r) : Gv Try.prog 68 [.int .i64 p0, .int .i64 p1, .int .i64 p2] w (RetS w [] φ (fun φ_ L_ v => v = .bool r ∧ L_ = [])) := by
 unfold m_target_within at hm
 refine Gv.of Try.func68 rfl Try.ntmps68 Try.results68 rfl ?_
 refine CK.seq ?_
 refine CK.reg (ks := []) (.fl 0 (.nil)) rfl ?_
 refine OKS.ra rfl rfl rfl rfl rfl rfl ?_
 refine OKS.e ?_
 refine thenQ_n ?_
 refine CK.seq ?_
 refine CK.reg (ks := []) (.fl 0 (.fl 1 (.fl 2 (.fl 3 (.fl 4 (.fl 5 (.fl 6 (.fl 7 (.fl 8 (.nil)))))))))) rfl ?_
 refine OKS.rm rfl rfl rfl rfl rfl rfl ?_
 refine OKS.rm rfl rfl rfl rfl rfl rfl ?_
 refine OKS.r rfl rfl rfl rfl (fun _ => Runs.geq rfl rfl rfl) ?_
 refine OKS.rm rfl rfl rfl rfl rfl rfl ?_
 by_cases c1 : p1 ≤ p0
 ·have hm2 := hm; rw [if_pos c1] at hm2; replace c1 := Hid.mk c1
  refine OKS.rm rfl rfl rfl (wantedY rfl rfl (decT c1.out)) rfl rfl ?_
  refine OKS.rm rfl rfl rfl (wantedY rfl rfl (decT c1.out)) rfl rfl ?_
  refine OKS.r rfl rfl rfl (wantedY rfl rfl (decT c1.out)) (fun _ => Runs.leq rfl rfl rfl) ?_
  refine OKS.r rfl rfl rfl rfl (fun _ => Runs.pickT rfl (decT c1.out) rfl) ?_
  refine OKS.ra rfl rfl rfl rfl rfl rfl ?_
  refine OKS.e ?_
  refine thenQ_n ?_
  refine CK.ret ?_
  cases hm2
  exact ⟨rfl, _, (res1 rfl), φ, _, hS, rfl, rfl⟩
 ·have hm3 := hm; rw [if_neg c1] at hm3; replace c1 := Hid.mk c1
  refine OKS.p rfl rfl rfl (wantedN rfl rfl (decF c1.out) rfl) ?_
  refine OKS.p rfl rfl rfl (wantedN rfl rfl (decF c1.out) rfl) ?_
  refine OKS.p rfl rfl rfl (wantedN rfl rfl (decF c1.out) rfl) ?_
  refine OKS.r rfl rfl rfl rfl (fun _ => Runs.pickF rfl (decF c1.out) rfl) ?_
  refine OKS.ra rfl rfl rfl rfl rfl rfl ?_
  refine OKS.e ?_
  refine thenQ_n ?_
  refine CK.ret ?_
  cases hm3
  exact ⟨rfl, _, (res1 rfl), φ, _, hS, rfl, rfl⟩

set_option maxHeartbeats 4000000 in
theorem w_target_all_int_1 (p0 : Int) (p1 : (Int → Option Bool)) (pb1 : Nat) (pv1 : Value) (w : World) (φ : PHeap) (hS : St ⟨w, [], φ⟩ φ [] w) (ha0 : Cl φ pb1 0 [pv1]) (ha1 : FnOK Try.prog φ pv1 ar107 rr107 p1) {r : Bool} (hm : m_target_all_int_1 p0 p1 = some r) : Gv Try.prog 125 [.int .i64 p0, .pointer (some ⟨pb1, 0, none⟩)] w (RetS w [] φ (fun φ_ L_ v => v = .bool r ∧ L_ = [])) := by
 unfold m_target_all_int_1 at hm
 refine Gv.of Try.func125 rfl Try.ntmps125 Try.results125 rfl ?_
 refine CK.seq ?_
 refine CK.reg (ks := []) (.fl 0 (.nil)) rfl ?_
 refine OKS.ra rfl rfl rfl rfl rfl rfl ?_
 refine OKS.e ?_
 refine thenQ_n ?_
 refine CK.seq ?_
 refine CK.reg (ks := []) (.fl 0 (.fl 1 (.fx 2 (.fl 3 (.fl 4 (.nil))) .stop))) rfl ?_
 refine OKS.m rfl rfl rfl rfl (hS.ldC (f := 0) ha0 (v := pv1) rfl rfl Try.isAgg107 rfl) rfl ?_
 refine OKS.rm rfl rfl rfl rfl rfl rfl ?_
 have q := bnd hm
 obtain ⟨x1, h2, hm3⟩ := q
 refine OKS.callV (a := p0) rfl rfl rfl rfl rfl rfl (mapcons rfl mapnil) hS ha1 rfl h2 ?_
 rintro φ4 L5 v6 W7 le8 hS9 ⟨rfl, rfl⟩
 have hS10 : St ⟨w, [], φ⟩ φ4 [] W7 := hS9
 refine OKS.r rfl rfl rfl rfl (fun _ => Runs.notT rfl rfl) ?_
 refine OKS.ra rfl rfl rfl rfl rfl rfl ?_
 refine OKS.e ?_
 refine thenQ_n ?_
 refine CK.ret ?_
 cases hm3
 exact ⟨rfl, _, (res1 rfl), φ4, _, hS10, rfl, rfl⟩

set_option maxHeartbeats 4000000 in
theorem w_slices_IndexFunc_int_int (p0 : List Int) (pA0 : Option Addr) (pc0 : Nat) (p1 : (Int → Option Bool)) (pv1 : Value) (w : World) (φ : PHeap) (hS : St ⟨w, [], φ⟩ φ [] w) (ha0 : Sl φ 1 pA0 pc0 p0.length (List.flatMap encI p0)) (ha1 : FnOK Try.prog φ pv1 ar107 rr107 p1) {r : Int} (hm : m_slices_IndexFunc_int_int p0 p1 = some r) : Gv Try.prog 120 [.slice pA0 p0.length pc0, pv1] w (RetS w [] φ (fun φ_ L_ v => v = .int .i64 r ∧ L_ = [])) := by
 unfold m_slices_IndexFunc_int_int at hm
 refine Gv.of Try.func120 rfl Try.ntmps120 Try.results120 rfl ?_
 refine CK.seq ?_
 refine CK.reg (ks := []) (.fl 0 (.nil)) rfl ?_
 refine OKS.ra rfl rfl rfl rfl rfl rfl ?_
 refine OKS.e ?_
 refine thenQ_n ?_
 refine CK.seq ?_
 refine CK.seq ?_
 refine CK.reg (ks := []) (.fl 0 (.fl 1 (.fl 2 (.nil)))) rfl ?_
 refine OKS.rm rfl rfl rfl rfl rfl rfl ?_
 refine OKS.r rfl rfl rfl rfl (fun _ => Runs.len rfl rfl Try.runUnderlying22) ?_
 refine OKS.rm rfl rfl rfl rfl rfl rfl ?_
 refine OKS.e ?_
 refine thenQ_n ?_
 refine CK.block ?_
 have q := jn_some hm
 obtain ⟨r3, hX4⟩ := q
 have q := forR_le hX4
 obtain ⟨hle5, hf6⟩ := q
 replace hle5 := Hid.mk hle5
 refine CK.forN (fun k2 _ σ_ w_ => ∃ (φ_ : PHeap), σ_ 8 = .int .i64 (↑k2 : Int) ∧ σ_ 0 = .slice pA0 p0.length pc0 ∧ σ_ 1 = pv1 ∧ σ_ 7 = .int .i64 (↑p0.length : Int) ∧ PHeap.Le φ φ_ ∧ St ⟨w, [], φ⟩ φ_ [] w_) hf6 ?_ ?_ ?_
 ·exact ⟨φ, rfl, rfl, rfl, rfl, (PHeap.Le.refl _), hS⟩
 ·rintro k2 ⟨⟩ xx9 σ7 W8 hk12 ⟨φ14, fi13, f17, f18, f19, le15, hS16⟩ hx10 hb11
  try dsimp only at hx10
  have c20 : Hid ((↑k2 : Int) < (↑p0.length : Int)) := Hid.mk (lp_lt0 hk12)
  replace hk12 := Hid.mk hk12
  have hi21 : Hid (w64 ((↑k2 : Int) + 1) = (↑(k2 + 1) : Int)) := Hid.mk (by have h1 := hle5.out; have h2 := c20.out; rw [w64_in] <;> omega)
  refine CK.seq ?_
  refine CK.reg (ks := []) (.fl 0 (.nil)) rfl ?_
  refine OKS.r rfl rfl rfl rfl (fun _ => Runs.lss rfl fi13 f19) ?_
  refine OKS.e ?_
  refine thenQ_n ?_
  refine CK.seq ?_
  refine CK.condT (decT c20.out) ?_
  refine CK.skip ?_
  refine thenQ_n ?_
  refine CK.seq ?_
  refine CK.block ?_
  refine CK.seq ?_
  refine CK.reg (ks := []) (.fl 0 (.fl 1 (.nil))) rfl ?_
  refine OKS.rm rfl rfl rfl rfl rfl fi13 ?_
  refine OKS.ra rfl rfl rfl rfl rfl rfl ?_
  refine OKS.e ?_
  refine thenQ_n ?_
  refine CK.seq ?_
  refine CK.reg (ks := []) (.fl 0 (.fl 1 (.fl 2 (.fl 3 (.fl 4 (.fx 5 (.nil) .stop)))))) rfl ?_
  refine OKS.rm rfl rfl rfl rfl rfl f18 ?_
  refine OKS.rm rfl rfl rfl rfl rfl f17 ?_
  refine OKS.rm rfl rfl rfl rfl rfl rfl ?_
  have q := bnd hx10
  obtain ⟨x22, h23, hm24⟩ := q
  have h25 := ha0.le le15
  have q := h25.el (fun _ => rfl) (idx_get h23)
  obtain ⟨b26, off27, hA28, hC29⟩ := q
  refine OKS.r rfl rfl rfl rfl (fun _ => Runs.iaN rfl rfl hA28 rfl Try.runUnderlying22 Try.sizeOf3 (idx_lt h23)) ?_
  refine OKS.m rfl rfl rfl rfl (hS16.ldC (f := 0) hC29 (v := .int .i64 x22) rfl rfl Try.isAgg3 rfl) rfl ?_
  have q := bnd hm24
  obtain ⟨x30, h31, hm32⟩ := q
  have h39 := ha1.le le15
  refine OKS.callV (a := x22) rfl rfl rfl rfl rfl rfl (mapcons rfl mapnil) hS16 h39 rfl h31 ?_
  rintro φ33 L34 v35 W36 le37 hS38 ⟨rfl, rfl⟩
  have hS40 : St ⟨w, [], φ⟩ φ33 [] W36 := hS38
  refine OKS.e ?_
  refine thenQ_n ?_
  by_cases c41 : x30 = true
  ·have hm42 := hm32; rw [if_pos c41] at hm42; replace c41 := Hid.mk c41
   refine CK.condT (congrArg Value.bool c41.out) ?_
   refine CK.seq ?_
   refine CK.reg (ks := []) (.fl 0 (.fl 1 (.nil))) rfl ?_
   refine OKS.rm rfl rfl rfl rfl rfl rfl ?_
   refine OKS.ra rfl rfl rfl rfl rfl rfl ?_
   refine OKS.e ?_
   refine thenQ_n ?_
   refine CK.ret ?_
   refine blockQ_r ?_
   refine thenQ_r ?_
   have q := esc_spec hm42
   obtain ⟨v43, hm44, e45⟩ := q
   obtain rfl := jn_inr hm hX4 (hb11 v43 e45)
   refine thenQ_r ?_
   refine blockQ_r ?_
   refine thenQ_r ?_
   cases hm44
   exact ⟨rfl, _, (res1 rfl), φ33, _, hS40, rfl, rfl⟩
  ·have hm46 := hm32; rw [if_neg c41] at hm46; replace c41 := Hid.mk c41
   refine CK.condF (congrArg Value.bool (Bool.eq_false_iff.2 c41.out)) ?_
   refine CK.skip ?_
   refine blockQ_n ?_
   refine thenQ_n ?_
   refine CK.reg (ks := []) (.fl 0 (.fl 1 (.nil))) rfl ?_
   refine OKS.r rfl rfl rfl rfl (fun _ => Runs.to (Runs.addw rfl fi13 rfl) (congrArg (Value.int .i64) hi21.out)) ?_
   refine OKS.rm rfl rfl rfl rfl rfl rfl ?_
   refine OKS.e ?_
   obtain rfl := Option.some.inj hm46
   exact thenQ_n ⟨rfl, _, rfl, ⟨φ33, rfl, f17, f18, f19, (le15.trans le37), hS40⟩⟩
 ·rintro ⟨⟩ σ47 W48 ⟨φ51, fi50, f54, f55, f56, le52, hS53⟩ hb49
  have hm57 := jn_inl hm hX4 hb49
  try dsimp only at hm57
  have c58 : Hid (¬ ((↑(((↑p0.length : Int) : Int) - 0).toNat : Int) < (↑p0.length : Int))) := Hid.mk (lp_end0)
  refine CK.seq ?_
  refine CK.reg (ks := []) (.fl 0 (.nil)) rfl ?_
  refine OKS.r rfl rfl rfl rfl (fun _ => Runs.lss rfl fi50 f56) ?_
  refine OKS.e ?_
  refine thenQ_n ?_
  refine CK.seq ?_
  refine CK.condF (decF c58.out) ?_
  refine CK.exit ?_
  refine thenQ_e ?_
  refine thenQ_e ?_
  refine blockQ_h ?_
  refine thenQ_n ?_
  refine CK.seq ?_
  refine CK.reg (ks := []) (.fl 0 (.nil)) rfl ?_
  refine OKS.ra rfl rfl rfl rfl rfl rfl ?_
  refine OKS.e ?_
  refine thenQ_n ?_
  refine CK.ret ?_
  cases hm57
  exact ⟨rfl, _, (res1 rfl), φ51, _, hS53, rfl, rfl⟩

set_option maxHeartbeats 4000000 in
theorem w_slices_ContainsFunc_int_int (p0 : List Int) (pA0 : Option Addr) (pc0 : Nat) (p1 : (Int → Option Bool)) (pv1 : Value) (w : World) (φ : PHeap) (hS : St ⟨w, [], φ⟩ φ [] w) (ha0 : Sl φ 1 pA0 pc0 p0.length (List.flatMap encI p0)) (ha1 : FnOK Try.prog φ pv1 ar107 rr107 p1) {r : Bool} (hm : m_slices_ContainsFunc_int_int p0 p1 = some r) : Gv Try.prog 121 [.slice pA0 p0.length pc0, pv1] w (RetS w [] φ (fun φ_ L_ v => v = .bool r ∧ L_ = [])) := by
 unfold m_slices_ContainsFunc_int_int at hm
 refine Gv.of Try.func121 rfl Try.ntmps121 Try.results121 rfl ?_
 refine CK.seq ?_
 refine CK.reg (ks := []) (.fl 0 (.nil)) rfl ?_
 refine OKS.ra rfl rfl rfl rfl rfl rfl ?_
 refine OKS.e ?_
 refine thenQ_n ?_
 refine CK.seq ?_
 refine CK.reg (ks := []) (.fl 0 (.fl 1 (.fx 2 (.fl 3 (.fl 4 (.nil))) .stop))) rfl ?_
 refine OKS.rm rfl rfl rfl rfl rfl rfl ?_
 refine OKS.rm rfl rfl rfl rfl rfl rfl ?_
 have q := bnd hm
 obtain ⟨x1, h2, hm3⟩ := q
 refine OKS.callH 0 rfl rfl rfl rfl (Enters.mk rfl rfl Try.call120 (mapcons rfl (mapcons rfl mapnil)) rfl) hS (fun hs => w_slices_IndexFunc_int_int p0 pA0 pc0 p1 pv1 w φ hs ha0 ha1 h2) (.inr rfl) ?_
 rintro φ4 L5 v6 W7 le8 hS9 ⟨rfl, rfl⟩
 have hS10 : St ⟨w, [], φ⟩ φ4 [] W7 := hS9
 refine OKS.r rfl rfl rfl rfl (fun _ => Runs.geq rfl rfl rfl) ?_
 refine OKS.ra rfl rfl rfl rfl rfl rfl ?_
 refine OKS.e ?_
 refine thenQ_n ?_
 refine CK.ret ?_
 cases hm3
 exact ⟨rfl, _, (res1 rfl), φ4, _, hS10, rfl, rfl⟩

set_option maxHeartbeats 4000000 in
theorem w_target_all_int (p0 : List Int) (pA0 : Option Addr) (pc0 : Nat) (p1 : (Int → Option Bool)) (pv1 : Value) (w : World) (φ : PHeap) (hS : St ⟨w, [], φ⟩ φ [] w) (ha0 : Sl φ 1 pA0 pc0 p0.length (List.flatMap encI p0)) (ha1 : FnOK Try.prog φ pv1 ar107 rr107 p1) {r : Bool} (hm : m_target_all_int p0 p1 = some r) : Gv Try.prog 101 [.slice pA0 p0.length pc0, pv1] w (RetS w [] φ (fun φ_ L_ v => v = .bool r ∧ L_ = [])) := by
 unfold m_target_all_int at hm
 refine Gv.of Try.func101 rfl Try.ntmps101 Try.results101 rfl ?_
 refine CK.seq ?_
 refine CK.reg (ks := []) (.fx 0 (.fl 1 (.nil)) .stop) rfl ?_
 refine OKS.box (cs := [pv1]) rfl rfl rfl rfl rfl rfl (FnOK.cells ha1) hS ?_
 intro W1 b2 hS3
 have q := hS3.freeze (k := 0) rfl
 obtain ⟨φ5, le6, hC7, hS8⟩ := q
 replace hC7 := Cl.of hC7
 have hS9 : St ⟨w, [], φ⟩ φ5 [] W1 := hS8
 replace hC7 : Cl φ5 b2 0 [pv1] := hC7
 refine OKS.ra rfl rfl rfl rfl rfl rfl ?_
 refine OKS.e ?_
 refine thenQ_n ?_
 refine CK.seq ?_
 refine CK.reg (ks := []) (.fl 0 (.fl 1 (.fx 2 (.fl 3 (.fl 4 (.nil))) .stop))) rfl ?_
 refine OKS.rm rfl rfl rfl rfl rfl rfl ?_
 refine OKS.r rfl rfl rfl rfl (fun _ => Runs.mkf rfl mapnil (mapcons rfl mapnil)) ?_
 have h10 := ha0.le le6
 have h11 := ha1.le le6
 have hF12 : FnOK Try.prog φ5 (.func (.func 125) #[] #[.pointer (some ⟨b2, 0, none⟩)]) ar107 rr107 (fun x => m_target_all_int_1 x p1) := ⟨125, [], [.pointer (some ⟨b2, 0, none⟩)], rfl, Try.call125, fun φ1 w1 x y vs le hs ha hm => by obtain rfl := ha; exact w_target_all_int_1 x p1 b2 pv1 w1 φ1 hs (hC7.le le) (h11.le le) hm⟩
 have q := bnd hm
 obtain ⟨x13, h14, hm15⟩ := q
 refine OKS.callH 0 rfl rfl rfl rfl (Enters.mk rfl rfl Try.call121 (mapcons rfl (mapcons rfl mapnil)) rfl) hS9 (fun hs => w_slices_ContainsFunc_int_int p0 pA0 pc0 (fun x => m_target_all_int_1 x p1) (.func (.func 125) #[] #[.pointer (some ⟨b2, 0, none⟩)]) W1 φ5 hs h10 hF12 h14) (.inr rfl) ?_
 rintro φ16 L17 v18 W19 le20 hS21 ⟨rfl, rfl⟩
 have hS22 : St ⟨w, [], φ⟩ φ16 [] W19 := hS21
 refine OKS.r rfl rfl rfl rfl (fun _ => Runs.notT rfl rfl) ?_
 refine OKS.ra rfl rfl rfl rfl rfl rfl ?_
 refine OKS.e ?_
 refine thenQ_n ?_
 refine CK.ret ?_
 cases hm15
 exact ⟨rfl, _, (res1 rfl), φ16, _, hS22, rfl, rfl⟩
end Go.Proofs.Ytaoaelhmiggepaa
