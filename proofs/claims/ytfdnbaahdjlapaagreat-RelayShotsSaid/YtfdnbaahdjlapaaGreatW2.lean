/- Walks, printed by a program: each function does what its model says. -/
import Derived.Test.YtfdnbaahdjlapaaGreatEnc
import Derived.Test.YtfdnbaahdjlapaaGreatW0
import Derived.Test.YtfdnbaahdjlapaaGreatW1
namespace Go.Proofs.YtfdnbaahdjlapaaGreat
open Go.KL
set_option maxHeartbeats 4000000 in
theorem w_klisterkit_Equal_bool (p0 : List Bool) (pA0 : Option Addr) (pc0 : Nat) (p1 : List Bool) (pA1 : Option Addr) (pc1 : Nat) (w : World) (φ : PHeap) (hS : St ⟨w, [], φ⟩ φ [] w) (ha0 : Sl φ 1 pA0 pc0 p0.length (List.flatMap encT p0)) (ha1 : Sl φ 1 pA1 pc1 p1.length (List.flatMap encT p1)) {r : Bool} (hm : m_klisterkit_Equal_bool p0 p1 = some r) : Gv Tryz.prog 16 [.slice pA0 p0.length pc0, .slice pA1 p1.length pc1] w (RetS w [] φ (fun φ_ L_ v => v = .bool r ∧ L_ = [])) := by
 unfold m_klisterkit_Equal_bool at hm
 refine Gv.of Tryz.func16 rfl Tryz.ntmps16 Tryz.results16 rfl ?_
 refine CK.seq ?_
 refine CK.reg (ks := []) (.fl 0 (.nil)) rfl ?_
 refine OKS.ra rfl rfl rfl rfl rfl rfl ?_
 refine OKS.e ?_
 refine thenQ_n ?_
 refine CK.seq ?_
 refine CK.seq ?_
 refine CK.reg (ks := []) (.fl 0 (.fl 1 (.fl 2 (.fl 3 (.fl 4 (.nil)))))) rfl ?_
 refine OKS.rm rfl rfl rfl rfl rfl rfl ?_
 refine OKS.r rfl rfl rfl rfl (fun _ => Runs.len rfl rfl Tryz.runUnderlying25) ?_
 refine OKS.rm rfl rfl rfl rfl rfl rfl ?_
 refine OKS.r rfl rfl rfl rfl (fun _ => Runs.len rfl rfl Tryz.runUnderlying25) ?_
 refine OKS.r rfl rfl rfl rfl (fun _ => Runs.neq rfl rfl rfl) ?_
 refine OKS.e ?_
 refine thenQ_n ?_
 by_cases c1 : (↑p0.length : Int) = (↑p1.length : Int)
 ·have hm2 := hm; rw [if_pos c1] at hm2; replace c1 := Hid.mk c1
  refine CK.condF (decF (fun h => h c1.out)) ?_
  refine CK.skip ?_
  refine thenQ_n ?_
  refine CK.seq ?_
  refine CK.seq ?_
  refine CK.reg (ks := []) (.fl 0 (.fl 1 (.fl 2 (.nil)))) rfl ?_
  refine OKS.rm rfl rfl rfl rfl rfl rfl ?_
  refine OKS.r rfl rfl rfl rfl (fun _ => Runs.len rfl rfl Tryz.runUnderlying25) ?_
  refine OKS.rm rfl rfl rfl rfl rfl rfl ?_
  refine OKS.e ?_
  refine thenQ_n ?_
  refine CK.block ?_
  have q := jn_some hm2
  obtain ⟨r5, hX6⟩ := q
  have q := forR_le hX6
  obtain ⟨hle7, hf8⟩ := q
  replace hle7 := Hid.mk hle7
  refine CK.forN (fun k4 _ σ_ w_ => ∃ (φ_ : PHeap), σ_ 13 = .int .i64 (↑k4 : Int) ∧ σ_ 0 = .slice pA0 p0.length pc0 ∧ σ_ 1 = .slice pA1 p1.length pc1 ∧ σ_ 12 = .int .i64 (↑p0.length : Int) ∧ PHeap.Le φ φ_ ∧ St ⟨w, [], φ⟩ φ_ [] w_) hf8 ?_ ?_ ?_
  ·exact ⟨φ, rfl, rfl, rfl, rfl, (PHeap.Le.refl _), hS⟩
  ·rintro k4 ⟨⟩ xx11 σ9 W10 hk14 ⟨φ16, fi15, f19, f20, f21, le17, hS18⟩ hx12 hb13
   try dsimp only at hx12
   have c22 : Hid ((↑k4 : Int) < (↑p0.length : Int)) := Hid.mk (lp_lt0 hk14)
   replace hk14 := Hid.mk hk14
   have hi23 : Hid (w64 ((↑k4 : Int) + 1) = (↑(k4 + 1) : Int)) := Hid.mk (by have h1 := hle7.out; have h2 := c22.out; rw [w64_in] <;> omega)
   refine CK.seq ?_
   refine CK.reg (ks := []) (.fl 0 (.nil)) rfl ?_
   refine OKS.r rfl rfl rfl rfl (fun _ => Runs.lss rfl fi15 f21) ?_
   refine OKS.e ?_
   refine thenQ_n ?_
   refine CK.seq ?_
   refine CK.condT (decT c22.out) ?_
   refine CK.skip ?_
   refine thenQ_n ?_
   refine CK.seq ?_
   refine CK.block ?_
   refine CK.seq ?_
   refine CK.reg (ks := []) (.fl 0 (.fl 1 (.nil))) rfl ?_
   refine OKS.rm rfl rfl rfl rfl rfl fi15 ?_
   refine OKS.ra rfl rfl rfl rfl rfl rfl ?_
   refine OKS.e ?_
   refine thenQ_n ?_
   refine CK.seq ?_
   refine CK.anyOrd Tryz.mixed [3, 3, 3, 1, 3, 3, 3, 1, 3] (.fl 0 (.fl 1 (.fl 2 (.fl 3 (.fl 4 (.fl 5 (.fl 6 (.fl 7 (.fl 8 (.nil)))))))))) (by kernel_rfl) ?_
   have hS24 := hS18.drew
   generalize hw_W25 : ({ W10 with drawn := W10.drawn + 1 } : World) = W25 at hS24 ⊢
   refine OKS.rm rfl rfl rfl rfl rfl f19 ?_
   refine OKS.rm rfl rfl rfl rfl rfl rfl ?_
   have q := bnd hx12
   obtain ⟨x26, h27, hm28⟩ := q
   have h29 := ha0.le le17
   have q := h29.el (fun _ => rfl) (idx_get h27)
   obtain ⟨b30, off31, hA32, hC33⟩ := q
   refine OKS.r rfl rfl rfl rfl (fun _ => Runs.iaN rfl rfl hA32 rfl Tryz.runUnderlying25 Tryz.sizeOf4 (idx_lt h27)) ?_
   refine OKS.m rfl rfl rfl rfl (hS24.ldC (f := 0) hC33 (v := .bool x26) rfl rfl Tryz.isAgg4 rfl) rfl ?_
   refine OKS.rm rfl rfl rfl rfl rfl f20 ?_
   refine OKS.rm rfl rfl rfl rfl rfl rfl ?_
   have q := bnd hm28
   obtain ⟨x34, h35, hm36⟩ := q
   have h37 := ha1.le le17
   have q := h37.el (fun _ => rfl) (idx_get h35)
   obtain ⟨b38, off39, hA40, hC41⟩ := q
   refine OKS.r rfl rfl rfl rfl (fun _ => Runs.iaN rfl rfl hA40 rfl Tryz.runUnderlying25 Tryz.sizeOf4 (idx_lt h35)) ?_
   refine OKS.m rfl rfl rfl rfl (hS24.ldC (f := 0) hC41 (v := .bool x34) rfl rfl Tryz.isAgg4 rfl) rfl ?_
   refine OKS.r rfl rfl rfl rfl (fun _ => Runs.neB rfl rfl rfl Tryz.runUnderlying4) ?_
   refine OKS.e ?_
   refine thenQ_n ?_
   by_cases c42 : (x26 == x34) = true
   ·have hm43 := hm36; rw [if_pos c42] at hm43; replace c42 := Hid.mk c42
    refine CK.condF (congrArg (fun b => Value.bool (!b)) c42.out) ?_
    refine CK.skip ?_
    refine blockQ_n ?_
    refine thenQ_n ?_
    refine CK.reg (ks := []) (.fl 0 (.fl 1 (.nil))) rfl ?_
    refine OKS.r rfl rfl rfl rfl (fun _ => Runs.to (Runs.addw rfl fi15 rfl) (congrArg (Value.int .i64) hi23.out)) ?_
    refine OKS.rm rfl rfl rfl rfl rfl rfl ?_
    refine OKS.e ?_
    obtain rfl := Option.some.inj hm43
    exact thenQ_n ⟨rfl, _, rfl, ⟨φ16, rfl, f19, f20, f21, le17, hS24⟩⟩
   ·have hm44 := hm36; rw [if_neg c42] at hm44; replace c42 := Hid.mk c42
    refine CK.condT (congrArg (fun b => Value.bool (!b)) (Bool.eq_false_iff.2 c42.out)) ?_
    refine CK.seq ?_
    refine CK.reg (ks := []) (.fl 0 (.nil)) rfl ?_
    refine OKS.ra rfl rfl rfl rfl rfl rfl ?_
    refine OKS.e ?_
    refine thenQ_n ?_
    refine CK.ret ?_
    refine blockQ_r ?_
    refine thenQ_r ?_
    have q := esc_spec hm44
    obtain ⟨v45, hm46, e47⟩ := q
    obtain rfl := jn_inr hm2 hX6 (hb13 v45 e47)
    refine thenQ_r ?_
    refine blockQ_r ?_
    refine thenQ_r ?_
    cases hm46
    exact ⟨rfl, _, (res1 rfl), φ16, _, hS24, rfl, rfl⟩
  ·rintro ⟨⟩ σ48 W49 ⟨φ52, fi51, f55, f56, f57, le53, hS54⟩ hb50
   have hm58 := jn_inl hm2 hX6 hb50
   try dsimp only at hm58
   have c59 : Hid (¬ ((↑(((↑p0.length : Int) : Int) - 0).toNat : Int) < (↑p0.length : Int))) := Hid.mk (lp_end0)
   refine CK.seq ?_
   refine CK.reg (ks := []) (.fl 0 (.nil)) rfl ?_
   refine OKS.r rfl rfl rfl rfl (fun _ => Runs.lss rfl fi51 f57) ?_
   refine OKS.e ?_
   refine thenQ_n ?_
   refine CK.seq ?_
   refine CK.condF (decF c59.out) ?_
   refine CK.exit ?_
   refine thenQ_e ?_
   refine thenQ_e ?_
   refine blockQ_h ?_
   refine thenQ_n ?_
   refine CK.seq ?_
   refine CK.reg (ks := []) (.fl 0 (.nil)) rfl ?_
   refine OKS.ra rfl rfl rfl rfl rfl rfl ?_
   refine OKS.e ?_
   refine thenQ_n ?_
   refine CK.ret ?_
   cases hm58
   exact ⟨rfl, _, (res1 rfl), φ52, _, hS54, rfl, rfl⟩
 ·have hm60 := hm; rw [if_neg c1] at hm60; replace c1 := Hid.mk c1
  refine CK.condT (decT c1.out) ?_
  refine CK.seq ?_
  refine CK.reg (ks := []) (.fl 0 (.nil)) rfl ?_
  refine OKS.ra rfl rfl rfl rfl rfl rfl ?_
  refine OKS.e ?_
  refine thenQ_n ?_
  refine CK.ret ?_
  refine thenQ_r ?_
  cases hm60
  exact ⟨rfl, _, (res1 rfl), φ, _, hS, rfl, rfl⟩

set_option maxHeartbeats 4000000 in
theorem w_klisterlaw08_RelayShots (p0 : T_relay_Rules) (pA0_0 : Option Addr) (pc0_0 : Nat) (p1 : List Bool) (pA1 : Option Addr) (pc1 : Nat) (w : World) (φ : PHeap) (hS : St ⟨w, [], φ⟩ φ [] w) (ha0 : Sl φ 1 pA0_0 pc0_0 p0.Classes.length (List.flatMap encI p0.Classes)) (ha1 : Sl φ 1 pA1 pc1 p1.length (List.flatMap encT p1)) {r : Bool} (hm : m_klisterlaw08_RelayShots p0 p1 = some r) : Gv Tryz.prog 3 [.agg #[.slice pA0_0 p0.Classes.length pc0_0, .int .i64 p0.Each, .int .i64 p0.Laps, .int .i64 p0.Spare, .int .i64 p0.Loop, .int .i64 p0.Unused], .slice pA1 p1.length pc1] w (RetS w [] φ (fun φ_ L_ v => v = .bool r ∧ L_ = [])) := by
 unfold m_klisterlaw08_RelayShots at hm
 refine Gv.of Tryz.func3 rfl Tryz.ntmps3 Tryz.results3 rfl ?_
 refine CK.seq ?_
 refine CK.reg (ks := []) (.fx 0 (.fl 1 (.nil)) .stop) rfl ?_
 refine OKS.box (cs := [.slice pA0_0 p0.Classes.length pc0_0, .int .i64 p0.Each, .int .i64 p0.Laps, .int .i64 p0.Spare, .int .i64 p0.Loop, .int .i64 p0.Unused]) rfl rfl rfl rfl rfl rfl (by rfl) hS ?_
 intro W1 b2 hS3
 refine OKS.ra rfl rfl rfl rfl rfl rfl ?_
 refine OKS.e ?_
 refine thenQ_n ?_
 refine CK.seq ?_
 refine CK.seq ?_
 refine CK.reg (ks := []) (.fl 0 (.fl 1 (.fl 2 (.fl 3 (.fl 4 (.fl 5 (.fl 6 (.fl 7 (.fl 8 (.nil)))))))))) rfl ?_
 refine OKS.rm rfl rfl rfl rfl rfl rfl ?_
 refine OKS.r rfl rfl rfl rfl (fun _ => Runs.len rfl rfl Tryz.runUnderlying25) ?_
 refine OKS.r rfl rfl rfl rfl (fun _ => Runs.gtr rfl rfl rfl) ?_
 refine OKS.rm rfl rfl rfl rfl rfl rfl ?_
 by_cases c5 : 12 < (↑p1.length : Int)
 ·have hm6 := hm; rw [if_pos c5] at hm6; replace c5 := Hid.mk c5
  refine OKS.p rfl rfl rfl (wantedN rfl rfl (decT c5.out) rfl) ?_
  refine OKS.p rfl rfl rfl (wantedN rfl rfl (decT c5.out) rfl) ?_
  refine OKS.p rfl rfl rfl (wantedN rfl rfl (decT c5.out) rfl) ?_
  refine OKS.p rfl rfl rfl (wantedN rfl rfl (decT c5.out) rfl) ?_
  refine OKS.r rfl rfl rfl rfl (fun _ => Runs.pickT rfl (decT c5.out) rfl) ?_
  refine OKS.e ?_
  refine thenQ_n ?_
  refine CK.condT rfl ?_
  refine CK.seq ?_
  refine CK.reg (ks := []) (.fx 0 (.fl 1 (.nil)) .stop) rfl ?_
  have q := bnd hm6
  obtain ⟨x7, h8, hm9⟩ := q
  refine OKS.callH 0 rfl rfl rfl rfl (Enters.mk rfl rfl Tryz.call8 mapnil rfl) hS3 (fun hs => w_klisterlaw08_awake W1 φ hs h8) (.inr rfl) ?_
  rintro φ10 L11 v12 W13 le14 hS15 ⟨rfl, rfl⟩
  have hS16 : St ⟨w, [], φ⟩ φ10 [.blk b2 24 [.slice pA0_0 p0.Classes.length pc0_0, .int .i64 p0.Each, .int .i64 p0.Laps, .int .i64 p0.Spare, .int .i64 p0.Loop, .int .i64 p0.Unused]] W13 := hS15
  refine OKS.ra rfl rfl rfl rfl rfl rfl ?_
  refine OKS.e ?_
  refine thenQ_n ?_
  refine CK.ret ?_
  refine thenQ_r ?_
  cases hm9
  exact ⟨rfl, _, (res1 rfl), φ10, _, (hS16.pick [] _ (by decide) rfl), rfl, rfl⟩
 ·have hm17 := hm; rw [if_neg c5] at hm17; replace c5 := Hid.mk c5
  refine OKS.r rfl rfl rfl (wantedY rfl rfl (decF c5.out)) (fun _ => Runs.fa rfl rfl Tryz.runUnderlying24 rfl Tryz.sizeOf22) ?_
  refine OKS.m rfl rfl rfl (wantedY rfl rfl (decF c5.out)) (hS3.ldB (j := 0) rfl rfl rfl Tryz.isAgg22 (v := .slice pA0_0 p0.Classes.length pc0_0) rfl) rfl ?_
  refine OKS.r rfl rfl rfl (wantedY rfl rfl (decF c5.out)) (fun _ => Runs.len rfl rfl Tryz.runUnderlying22) ?_
  refine OKS.r rfl rfl rfl (wantedY rfl rfl (decF c5.out)) (fun _ => Runs.gtr rfl rfl rfl) ?_
  refine OKS.r rfl rfl rfl rfl (fun _ => Runs.pickF rfl (decF c5.out) rfl) ?_
  refine OKS.e ?_
  refine thenQ_n ?_
  by_cases c18 : 12 < (↑p0.Classes.length : Int)
  ·have hm19 := hm17; rw [if_pos c18] at hm19; replace c18 := Hid.mk c18
   refine CK.condT (decT c18.out) ?_
   refine CK.seq ?_
   refine CK.reg (ks := []) (.fx 0 (.fl 1 (.nil)) .stop) rfl ?_
   have q := bnd hm19
   obtain ⟨x20, h21, hm22⟩ := q
   refine OKS.callH 0 rfl rfl rfl rfl (Enters.mk rfl rfl Tryz.call8 mapnil rfl) hS3 (fun hs => w_klisterlaw08_awake W1 φ hs h21) (.inr rfl) ?_
   rintro φ23 L24 v25 W26 le27 hS28 ⟨rfl, rfl⟩
   have hS29 : St ⟨w, [], φ⟩ φ23 [.blk b2 24 [.slice pA0_0 p0.Classes.length pc0_0, .int .i64 p0.Each, .int .i64 p0.Laps, .int .i64 p0.Spare, .int .i64 p0.Loop, .int .i64 p0.Unused]] W26 := hS28
   refine OKS.ra rfl rfl rfl rfl rfl rfl ?_
   refine OKS.e ?_
   refine thenQ_n ?_
   refine CK.ret ?_
   refine thenQ_r ?_
   cases hm22
   exact ⟨rfl, _, (res1 rfl), φ23, _, (hS29.pick [] _ (by decide) rfl), rfl, rfl⟩
  ·have hm30 := hm17; rw [if_neg c18] at hm30; replace c18 := Hid.mk c18
   refine CK.condF (decF c18.out) ?_
   refine CK.skip ?_
   refine thenQ_n ?_
   refine CK.seq ?_
   refine CK.reg (ks := []) (.fl 0 (.fx 1 (.fl 2 (.fx 3 (.fx 4 (.fx 5 (.fl 6 (.nil)) .stop) .stop) .stop)) .stop)) rfl ?_
   refine OKS.m rfl rfl rfl rfl (hS3.ldBA (j := 0) rfl rfl rfl Tryz.isAgg24 Tryz.sizeOf24 (vs := [.slice pA0_0 p0.Classes.length pc0_0, .int .i64 p0.Each, .int .i64 p0.Laps, .int .i64 p0.Spare, .int .i64 p0.Loop, .int .i64 p0.Unused]) rfl rfl) rfl ?_
   have q := bnd hm30
   obtain ⟨x31, h32, hm33⟩ := q
   refine OKS.callH 0 rfl rfl rfl rfl (Enters.mk rfl rfl Tryz.call9 (mapcons rfl mapnil) rfl) hS3 (fun hs => w_klisterlaw08_CloneRules p0 pA0_0 pc0_0 W1 φ hs ha0 h32) (.inr rfl) ?_
   rintro φ34 L35 v36 W37 le38 hS39 ⟨A40, c41, rfl, rfl⟩
   have hS43 : St ⟨w, [], φ⟩ φ34 [.row A40 c41 3 1 (List.flatMap encI x31.Classes), .blk b2 24 [.slice pA0_0 p0.Classes.length pc0_0, .int .i64 p0.Each, .int .i64 p0.Laps, .int .i64 p0.Spare, .int .i64 p0.Loop, .int .i64 p0.Unused]] W37 := hS39
   refine OKS.rm rfl rfl rfl rfl rfl rfl ?_
   have h44 := ha1.le le38
   have q := bnd hm33
   obtain ⟨x45, h46, hm47⟩ := q
   refine OKS.callH 0 rfl rfl rfl rfl (Enters.mk rfl rfl Tryz.call10 (mapcons rfl mapnil) rfl) hS43 (fun hs => w_klisterkit_Clone_bool p1 pA1 pc1 W37 φ34 hs h44 h46) (.inr rfl) ?_
   rintro φ48 L49 v50 W51 le52 hS53 ⟨A54, c55, rfl, rfl⟩
   have hS57 : St ⟨w, [], φ⟩ φ48 [.row A54 c55 4 1 (List.flatMap encT x45), .row A40 c41 3 1 (List.flatMap encI x31.Classes), .blk b2 24 [.slice pA0_0 p0.Classes.length pc0_0, .int .i64 p0.Each, .int .i64 p0.Laps, .int .i64 p0.Spare, .int .i64 p0.Loop, .int .i64 p0.Unused]] W51 := hS53
   refine OKS.alloc (cs := [.slice none 0 0, .int .i64 0, .int .i64 0, .int .i64 0, .int .i64 0, .int .i64 0]) rfl rfl rfl rfl rfl Tryz.zeroValue24 rfl hS57 ?_
   intro W58 b59 hS60
   refine OKS.st (j := 0) (vs := [.slice A40 x31.Classes.length c41, .int .i64 x31.Each, .int .i64 x31.Laps, .int .i64 x31.Spare, .int .i64 x31.Loop, .int .i64 x31.Unused]) rfl rfl rfl rfl hS60 rfl rfl rfl rfl Tryz.sizeOf24 (Nat.le_of_ble_eq_true rfl) rfl rfl rfl ?_
   intro W62 hS63
   have hS64 : St ⟨w, [], φ⟩ φ48 [.blk b59 24 [.slice A40 x31.Classes.length c41, .int .i64 x31.Each, .int .i64 x31.Laps, .int .i64 x31.Spare, .int .i64 x31.Loop, .int .i64 x31.Unused], .row A54 c55 4 1 (List.flatMap encT x45), .row A40 c41 3 1 (List.flatMap encI x31.Classes), .blk b2 24 [.slice pA0_0 p0.Classes.length pc0_0, .int .i64 p0.Each, .int .i64 p0.Laps, .int .i64 p0.Spare, .int .i64 p0.Loop, .int .i64 p0.Unused]] W62 := hS63
   refine OKS.ra rfl rfl rfl rfl rfl rfl ?_
   refine OKS.e ?_
   refine thenQ_n ?_
   refine CK.seq ?_
   refine CK.seq ?_
   refine CK.anyOrd Tryz.mixed [1, 2, 1, 2, 2, 3] (.fl 0 (.fl 2 (.fx 1 (.fx 3 (.fx 4 (.fl 5 (.nil)) .stop) .stop) .stop))) (by kernel_rfl) ?_
   have hS65 := hS64.drew
   generalize hw_W66 : ({ W62 with drawn := W62.drawn + 1 } : World) = W66 at hS65 ⊢
   refine OKS.m rfl rfl rfl rfl (hS65.ldBA (j := 0) rfl rfl rfl Tryz.isAgg24 Tryz.sizeOf24 (vs := [.slice A40 x31.Classes.length c41, .int .i64 x31.Each, .int .i64 x31.Laps, .int .i64 x31.Spare, .int .i64 x31.Loop, .int .i64 x31.Unused]) rfl rfl) rfl ?_
   refine OKS.m rfl rfl rfl rfl (hS65.ldBA (j := 3) rfl rfl rfl Tryz.isAgg24 Tryz.sizeOf24 (vs := [.slice pA0_0 p0.Classes.length pc0_0, .int .i64 p0.Each, .int .i64 p0.Laps, .int .i64 p0.Spare, .int .i64 p0.Loop, .int .i64 p0.Unused]) rfl rfl) rfl ?_
   have q := hS65.freezeR (k := 2) (n := x31.Classes.length) rfl (flatMap_len (f := encI) (sz := 1) (fun _ => rfl) x31.Classes) (by decide)
   obtain ⟨φ67, le68, hs69, hS70⟩ := q
   have hS71 : St ⟨w, [], φ⟩ φ67 [.blk b59 24 [.slice A40 x31.Classes.length c41, .int .i64 x31.Each, .int .i64 x31.Laps, .int .i64 x31.Spare, .int .i64 x31.Loop, .int .i64 x31.Unused], .row A54 c55 4 1 (List.flatMap encT x45), .blk b2 24 [.slice pA0_0 p0.Classes.length pc0_0, .int .i64 p0.Each, .int .i64 p0.Laps, .int .i64 p0.Spare, .int .i64 p0.Loop, .int .i64 p0.Unused]] W66 := hS70
   have q := bnd hm47
   obtain ⟨x72, h73, hm74⟩ := q
   refine OKS.callH 0 rfl rfl rfl rfl (Enters.mk rfl rfl Tryz.call11 (mapcons rfl mapnil) rfl) hS71 (fun hs => w_relay_CheckRules x31 A40 c41 W66 φ67 hs hs69 h73) (.inr rfl) ?_
   rintro φ75 L76 v77 W78 le79 hS80 ⟨rfl, rfl⟩
   have hS81 : St ⟨w, [], φ⟩ φ75 [.blk b59 24 [.slice A40 x31.Classes.length c41, .int .i64 x31.Each, .int .i64 x31.Laps, .int .i64 x31.Spare, .int .i64 x31.Loop, .int .i64 x31.Unused], .row A54 c55 4 1 (List.flatMap encT x45), .blk b2 24 [.slice pA0_0 p0.Classes.length pc0_0, .int .i64 p0.Each, .int .i64 p0.Laps, .int .i64 p0.Spare, .int .i64 p0.Loop, .int .i64 p0.Unused]] W78 := hS80
   have h82 := ha0.le le38
   have h83 := h82.le le52
   have h84 := h83.le le68
   have h85 := h84.le le79
   have q := bnd hm74
   obtain ⟨x86, h87, hm88⟩ := q
   refine OKS.callH 0 rfl rfl rfl rfl (Enters.mk rfl rfl Tryz.call9 (mapcons rfl mapnil) rfl) hS81 (fun hs => w_klisterlaw08_CloneRules p0 pA0_0 pc0_0 W78 φ75 hs h85 h87) (.inr rfl) ?_
   rintro φ89 L90 v91 W92 le93 hS94 ⟨A95, c96, rfl, rfl⟩
   have hS98 : St ⟨w, [], φ⟩ φ89 [.row A95 c96 3 1 (List.flatMap encI x86.Classes), .blk b59 24 [.slice A40 x31.Classes.length c41, .int .i64 x31.Each, .int .i64 x31.Laps, .int .i64 x31.Spare, .int .i64 x31.Loop, .int .i64 x31.Unused], .row A54 c55 4 1 (List.flatMap encT x45), .blk b2 24 [.slice pA0_0 p0.Classes.length pc0_0, .int .i64 p0.Each, .int .i64 p0.Laps, .int .i64 p0.Spare, .int .i64 p0.Loop, .int .i64 p0.Unused]] W92 := hS94
   have q := hS98.freezeR (k := 0) (n := x86.Classes.length) rfl (flatMap_len (f := encI) (sz := 1) (fun _ => rfl) x86.Classes) (by decide)
   obtain ⟨φ99, le100, hs101, hS102⟩ := q
   have hS103 : St ⟨w, [], φ⟩ φ99 [.blk b59 24 [.slice A40 x31.Classes.length c41, .int .i64 x31.Each, .int .i64 x31.Laps, .int .i64 x31.Spare, .int .i64 x31.Loop, .int .i64 x31.Unused], .row A54 c55 4 1 (List.flatMap encT x45), .blk b2 24 [.slice pA0_0 p0.Classes.length pc0_0, .int .i64 p0.Each, .int .i64 p0.Laps, .int .i64 p0.Spare, .int .i64 p0.Loop, .int .i64 p0.Unused]] W92 := hS102
   have q := bnd hm88
   obtain ⟨x104, h105, hm106⟩ := q
   refine OKS.callH 0 rfl rfl rfl rfl (Enters.mk rfl rfl Tryz.call12 (mapcons rfl mapnil) rfl) hS103 (fun hs => w_klisterref08_CheckRules (⟨x86.Classes, x86.Each, x86.Laps, x86.Spare, x86.Loop, x86.Unused⟩ : T_klisterref08_Rules) A95 c96 W92 φ99 hs hs101 h105) (.inr rfl) ?_
   rintro φ107 L108 v109 W110 le111 hS112 ⟨rfl, rfl⟩
   have hS113 : St ⟨w, [], φ⟩ φ107 [.blk b59 24 [.slice A40 x31.Classes.length c41, .int .i64 x31.Each, .int .i64 x31.Laps, .int .i64 x31.Spare, .int .i64 x31.Loop, .int .i64 x31.Unused], .row A54 c55 4 1 (List.flatMap encT x45), .blk b2 24 [.slice pA0_0 p0.Classes.length pc0_0, .int .i64 p0.Each, .int .i64 p0.Laps, .int .i64 p0.Spare, .int .i64 p0.Loop, .int .i64 p0.Unused]] W110 := hS112
   refine OKS.r rfl rfl rfl rfl (fun _ => Runs.neq rfl rfl rfl) ?_
   refine OKS.e ?_
   refine thenQ_n ?_
   by_cases c114 : x72 = x104
   ·have hm115 := hm106; rw [if_pos c114] at hm115; replace c114 := Hid.mk c114
    refine CK.condF (decF (fun h => h c114.out)) ?_
    refine CK.skip ?_
    refine thenQ_n ?_
    refine CK.seq ?_
    refine CK.reg (ks := []) (.fl 0 (.fx 1 (.fl 2 (.fl 3 (.fl 4 (.fx 5 (.fx 6 (.fl 7 (.nil)) .stop) .stop)))) .stop)) rfl ?_
    refine OKS.rm rfl rfl rfl rfl rfl rfl ?_
    have q := hS113.freezeR (k := 1) (n := x45.length) rfl (flatMap_len (f := encT) (sz := 1) (fun _ => rfl) x45) (by decide)
    obtain ⟨φ116, le117, hs118, hS119⟩ := q
    have hS120 : St ⟨w, [], φ⟩ φ116 [.blk b59 24 [.slice A40 x31.Classes.length c41, .int .i64 x31.Each, .int .i64 x31.Laps, .int .i64 x31.Spare, .int .i64 x31.Loop, .int .i64 x31.Unused], .blk b2 24 [.slice pA0_0 p0.Classes.length pc0_0, .int .i64 p0.Each, .int .i64 p0.Laps, .int .i64 p0.Spare, .int .i64 p0.Loop, .int .i64 p0.Unused]] W110 := hS119
    have q := bnd hm115
    obtain ⟨⟨x121, x122⟩, h123, hm124⟩ := q
    try dsimp only at hm124
    refine OKS.callH 0 rfl rfl rfl rfl (Enters.mk rfl rfl Tryz.call13 (mapcons rfl mapnil) rfl) hS120 (fun hs => w_relay_Shot x45 A54 c55 W110 φ116 hs hs118 h123) (.inr rfl) ?_
    rintro φ125 L126 v127 W128 le129 hS130 ⟨rfl, rfl⟩
    have hS131 : St ⟨w, [], φ⟩ φ125 [.blk b59 24 [.slice A40 x31.Classes.length c41, .int .i64 x31.Each, .int .i64 x31.Laps, .int .i64 x31.Spare, .int .i64 x31.Loop, .int .i64 x31.Unused], .blk b2 24 [.slice pA0_0 p0.Classes.length pc0_0, .int .i64 p0.Each, .int .i64 p0.Laps, .int .i64 p0.Spare, .int .i64 p0.Loop, .int .i64 p0.Unused]] W128 := hS130
    refine OKS.rm rfl rfl rfl rfl rfl rfl ?_
    refine OKS.r rfl rfl rfl rfl (fun _ => Runs.ext rfl rfl (v := .agg #[.int .i64 x121.Spares, .int .i64 x121.Loops, .int .i64 x121.Unused]) rfl) ?_
    refine OKS.r rfl rfl rfl rfl (fun _ => Runs.ext rfl rfl (v := .int .i64 x122) rfl) ?_
    refine OKS.alloc (cs := [.int .i64 0, .int .i64 0, .int .i64 0]) rfl rfl rfl rfl rfl Tryz.zeroValue34 rfl hS131 ?_
    intro W132 b133 hS134
    refine OKS.st (j := 0) (vs := [.int .i64 x121.Spares, .int .i64 x121.Loops, .int .i64 x121.Unused]) rfl rfl rfl rfl hS134 rfl rfl rfl rfl Tryz.sizeOf34 (Nat.le_of_ble_eq_true rfl) rfl rfl rfl ?_
    intro W136 hS137
    have hS138 : St ⟨w, [], φ⟩ φ125 [.blk b133 34 [.int .i64 x121.Spares, .int .i64 x121.Loops, .int .i64 x121.Unused], .blk b59 24 [.slice A40 x31.Classes.length c41, .int .i64 x31.Each, .int .i64 x31.Laps, .int .i64 x31.Spare, .int .i64 x31.Loop, .int .i64 x31.Unused], .blk b2 24 [.slice pA0_0 p0.Classes.length pc0_0, .int .i64 p0.Each, .int .i64 p0.Laps, .int .i64 p0.Spare, .int .i64 p0.Loop, .int .i64 p0.Unused]] W136 := hS137
    refine OKS.ra rfl rfl rfl rfl rfl rfl ?_
    refine OKS.e ?_
    refine thenQ_n ?_
    refine CK.seq ?_
    refine CK.reg (ks := []) (.fl 0 (.fx 1 (.fl 2 (.fl 3 (.fl 4 (.fx 5 (.fx 6 (.fl 7 (.nil)) .stop) .stop)))) .stop)) rfl ?_
    refine OKS.rm rfl rfl rfl rfl rfl rfl ?_
    have h139 := h44.le le52
    have h140 := h139.le le68
    have h141 := h140.le le79
    have h142 := h141.le le93
    have h143 := h142.le le100
    have h144 := h143.le le111
    have h145 := h144.le le117
    have h146 := h145.le le129
    have q := bnd hm124
    obtain ⟨⟨x147, x148⟩, h149, hm150⟩ := q
    try dsimp only at hm150
    refine OKS.callH 0 rfl rfl rfl rfl (Enters.mk rfl rfl Tryz.call14 (mapcons rfl mapnil) rfl) hS138 (fun hs => w_klisterref08_Shot p1 pA1 pc1 W136 φ125 hs h146 h149) (.inr rfl) ?_
    rintro φ151 L152 v153 W154 le155 hS156 ⟨rfl, rfl⟩
    have hS157 : St ⟨w, [], φ⟩ φ151 [.blk b133 34 [.int .i64 x121.Spares, .int .i64 x121.Loops, .int .i64 x121.Unused], .blk b59 24 [.slice A40 x31.Classes.length c41, .int .i64 x31.Each, .int .i64 x31.Laps, .int .i64 x31.Spare, .int .i64 x31.Loop, .int .i64 x31.Unused], .blk b2 24 [.slice pA0_0 p0.Classes.length pc0_0, .int .i64 p0.Each, .int .i64 p0.Laps, .int .i64 p0.Spare, .int .i64 p0.Loop, .int .i64 p0.Unused]] W154 := hS156
    refine OKS.rm rfl rfl rfl rfl rfl rfl ?_
    refine OKS.r rfl rfl rfl rfl (fun _ => Runs.ext rfl rfl (v := .agg #[.int .i64 x147.Spares, .int .i64 x147.Loops, .int .i64 x147.Unused]) rfl) ?_
    refine OKS.r rfl rfl rfl rfl (fun _ => Runs.ext rfl rfl (v := .int .i64 x148) rfl) ?_
    refine OKS.alloc (cs := [.int .i64 0, .int .i64 0, .int .i64 0]) rfl rfl rfl rfl rfl Tryz.zeroValue37 rfl hS157 ?_
    intro W158 b159 hS160
    refine OKS.st (j := 0) (vs := [.int .i64 x147.Spares, .int .i64 x147.Loops, .int .i64 x147.Unused]) rfl rfl rfl rfl hS160 rfl rfl rfl rfl Tryz.sizeOf37 (Nat.le_of_ble_eq_true rfl) rfl rfl rfl ?_
    intro W162 hS163
    have hS164 : St ⟨w, [], φ⟩ φ151 [.blk b159 37 [.int .i64 x147.Spares, .int .i64 x147.Loops, .int .i64 x147.Unused], .blk b133 34 [.int .i64 x121.Spares, .int .i64 x121.Loops, .int .i64 x121.Unused], .blk b59 24 [.slice A40 x31.Classes.length c41, .int .i64 x31.Each, .int .i64 x31.Laps, .int .i64 x31.Spare, .int .i64 x31.Loop, .int .i64 x31.Unused], .blk b2 24 [.slice pA0_0 p0.Classes.length pc0_0, .int .i64 p0.Each, .int .i64 p0.Laps, .int .i64 p0.Spare, .int .i64 p0.Loop, .int .i64 p0.Unused]] W162 := hS163
    refine OKS.ra rfl rfl rfl rfl rfl rfl ?_
    refine OKS.e ?_
    refine thenQ_n ?_
    refine CK.seq ?_
    refine CK.fresh fun σ165 hσ166 => ?_
    have f167 : σ165 1 = .slice pA1 p1.length pc1 := (hσ166 1).trans rfl
    have f168 : σ165 2 = .pointer (some ⟨b2, 0, none⟩) := (hσ166 2).trans rfl
    have f169 : σ165 4 = .bool false := (hσ166 4).trans rfl
    have f170 : σ165 5 = .pointer (some ⟨b59, 0, none⟩) := (hσ166 5).trans rfl
    have f171 : σ165 6 = .slice A54 x45.length c55 := (hσ166 6).trans rfl
    have f172 : σ165 7 = .pointer (some ⟨b133, 0, none⟩) := (hσ166 7).trans rfl
    have f173 : σ165 8 = .int .i64 x122 := (hσ166 8).trans rfl
    have f174 : σ165 9 = .pointer (some ⟨b159, 0, none⟩) := (hσ166 9).trans rfl
    have f175 : σ165 10 = .int .i64 x148 := (hσ166 10).trans rfl
    clear hσ166
    refine CK.reg (ks := []) (.fl 0 (.fl 1 (.fl 2 (.fl 3 (.fl 4 (.fl 5 (.fl 6 (.fl 7 (.fl 8 (.fl 9 (.fl 10 (.fx 11 (.fl 12 (.fl 13 (.fl 14 (.fl 15 (.fx 16 (.fl 17 (.fl 18 (.fx 19 (.fl 20 (.fl 21 (.nil))) .stop))) .stop))))) .stop)))))))))))) rfl ?_
    refine OKS.rm rfl rfl rfl rfl rfl f173 ?_
    refine OKS.rm rfl rfl rfl rfl rfl f175 ?_
    refine OKS.r rfl rfl rfl rfl (fun _ => Runs.eql rfl rfl rfl) ?_
    refine OKS.rm rfl rfl rfl rfl rfl rfl ?_
    by_cases c176 : x122 = x148
    ·have hm177 := hm150; rw [if_pos c176] at hm177; replace c176 := Hid.mk c176
     refine OKS.m rfl rfl rfl (wantedY rfl rfl (decT c176.out)) (hS164.ldBA (j := 1) rfl rfl f172 Tryz.isAgg34 Tryz.sizeOf34 (vs := [.int .i64 x121.Spares, .int .i64 x121.Loops, .int .i64 x121.Unused]) rfl rfl) rfl ?_
     refine OKS.m rfl rfl rfl (wantedY rfl rfl (decT c176.out)) (hS164.ldBA (j := 0) rfl rfl f174 Tryz.isAgg37 Tryz.sizeOf37 (vs := [.int .i64 x147.Spares, .int .i64 x147.Loops, .int .i64 x147.Unused]) rfl rfl) rfl ?_
     refine OKS.r rfl rfl rfl (wantedY rfl rfl (decT c176.out)) (fun _ => Runs.eqS (enc := encT_klisterref08_Shooting) (a := (⟨x121.Spares, x121.Loops, x121.Unused⟩ : T_klisterref08_Shooting)) (b := x147) rfl rfl rfl eqT37 eqG37) ?_
     refine OKS.r rfl rfl rfl rfl (fun _ => Runs.pickT rfl (decT c176.out) rfl) ?_
     refine OKS.rm rfl rfl rfl rfl rfl rfl ?_
     by_cases c178 : (⟨x121.Spares, x121.Loops, x121.Unused⟩ : T_klisterref08_Shooting) = x147
     ·have hm179 := hm177; rw [if_pos c178] at hm179; replace c178 := Hid.mk c178
      refine OKS.m rfl rfl rfl (wantedY rfl rfl (decT c178.out)) (hS164.ldBA (j := 2) rfl rfl f170 Tryz.isAgg24 Tryz.sizeOf24 (vs := [.slice A40 x31.Classes.length c41, .int .i64 x31.Each, .int .i64 x31.Laps, .int .i64 x31.Spare, .int .i64 x31.Loop, .int .i64 x31.Unused]) rfl rfl) rfl ?_
      refine OKS.m rfl rfl rfl (wantedY rfl rfl (decT c178.out)) (hS164.ldBA (j := 3) rfl rfl f168 Tryz.isAgg24 Tryz.sizeOf24 (vs := [.slice pA0_0 p0.Classes.length pc0_0, .int .i64 p0.Each, .int .i64 p0.Laps, .int .i64 p0.Spare, .int .i64 p0.Loop, .int .i64 p0.Unused]) rfl rfl) rfl ?_
      have h180 := hs69.le le79
      have h181 := h180.le le93
      have h182 := h181.le le100
      have h183 := h182.le le111
      have h184 := h183.le le117
      have h185 := h184.le le129
      have h186 := h185.le le155
      have h187 := h85.le le93
      have h188 := h187.le le100
      have h189 := h188.le le111
      have h190 := h189.le le117
      have h191 := h190.le le129
      have h192 := h191.le le155
      have q := bnd hm179
      obtain ⟨x193, h194, hm195⟩ := q
      refine OKS.callH 0 rfl rfl rfl (wantedY rfl rfl (decT c178.out)) (Enters.mk rfl rfl Tryz.call15 (mapcons rfl (mapcons rfl mapnil)) rfl) hS164 (fun hs => w_klisterlaw08_sameRules x31 A40 c41 p0 pA0_0 pc0_0 W162 φ151 hs h186 h192 h194) (.inr rfl) ?_
      rintro φ196 L197 v198 W199 le200 hS201 ⟨rfl, rfl⟩
      have hS202 : St ⟨w, [], φ⟩ φ196 [.blk b159 37 [.int .i64 x147.Spares, .int .i64 x147.Loops, .int .i64 x147.Unused], .blk b133 34 [.int .i64 x121.Spares, .int .i64 x121.Loops, .int .i64 x121.Unused], .blk b59 24 [.slice A40 x31.Classes.length c41, .int .i64 x31.Each, .int .i64 x31.Laps, .int .i64 x31.Spare, .int .i64 x31.Loop, .int .i64 x31.Unused], .blk b2 24 [.slice pA0_0 p0.Classes.length pc0_0, .int .i64 p0.Each, .int .i64 p0.Laps, .int .i64 p0.Spare, .int .i64 p0.Loop, .int .i64 p0.Unused]] W199 := hS201
      refine OKS.r rfl rfl rfl rfl (fun _ => Runs.pickT rfl (decT c178.out) rfl) ?_
      refine OKS.rm rfl rfl rfl rfl rfl rfl ?_
      by_cases c203 : x193 = true
      ·have hm204 := hm195; rw [if_pos c203] at hm204; replace c203 := Hid.mk c203
       refine OKS.rm rfl rfl rfl (wantedY rfl rfl (congrArg Value.bool c203.out)) rfl f171 ?_
       refine OKS.rm rfl rfl rfl (wantedY rfl rfl (congrArg Value.bool c203.out)) rfl f167 ?_
       have h205 := hs118.le le129
       have h206 := h205.le le155
       have h207 := h206.le le200
       have h208 := h146.le le155
       have h209 := h208.le le200
       have q := bnd hm204
       obtain ⟨x210, h211, hm212⟩ := q
       refine OKS.callH 0 rfl rfl rfl (wantedY rfl rfl (congrArg Value.bool c203.out)) (Enters.mk rfl rfl Tryz.call16 (mapcons rfl (mapcons rfl mapnil)) rfl) hS202 (fun hs => w_klisterkit_Equal_bool x45 A54 c55 p1 pA1 pc1 W199 φ196 hs h207 h209 h211) (.inr rfl) ?_
       rintro φ213 L214 v215 W216 le217 hS218 ⟨rfl, rfl⟩
       have hS219 : St ⟨w, [], φ⟩ φ213 [.blk b159 37 [.int .i64 x147.Spares, .int .i64 x147.Loops, .int .i64 x147.Unused], .blk b133 34 [.int .i64 x121.Spares, .int .i64 x121.Loops, .int .i64 x121.Unused], .blk b59 24 [.slice A40 x31.Classes.length c41, .int .i64 x31.Each, .int .i64 x31.Laps, .int .i64 x31.Spare, .int .i64 x31.Loop, .int .i64 x31.Unused], .blk b2 24 [.slice pA0_0 p0.Classes.length pc0_0, .int .i64 p0.Each, .int .i64 p0.Laps, .int .i64 p0.Spare, .int .i64 p0.Loop, .int .i64 p0.Unused]] W216 := hS218
       refine OKS.r rfl rfl rfl rfl (fun _ => Runs.pickT rfl (congrArg Value.bool c203.out) rfl) ?_
       refine OKS.rm rfl rfl rfl rfl rfl rfl ?_
       by_cases c220 : x210 = true
       ·have hm221 := hm212; rw [if_pos c220] at hm221; replace c220 := Hid.mk c220
        have q := bnd hm221
        obtain ⟨x222, h223, hm224⟩ := q
        refine OKS.callH 0 rfl rfl rfl (wantedY rfl rfl (congrArg Value.bool c220.out)) (Enters.mk rfl rfl Tryz.call8 mapnil rfl) hS219 (fun hs => w_klisterlaw08_awake W216 φ213 hs h223) (.inr rfl) ?_
        rintro φ225 L226 v227 W228 le229 hS230 ⟨rfl, rfl⟩
        have hS231 : St ⟨w, [], φ⟩ φ225 [.blk b159 37 [.int .i64 x147.Spares, .int .i64 x147.Loops, .int .i64 x147.Unused], .blk b133 34 [.int .i64 x121.Spares, .int .i64 x121.Loops, .int .i64 x121.Unused], .blk b59 24 [.slice A40 x31.Classes.length c41, .int .i64 x31.Each, .int .i64 x31.Laps, .int .i64 x31.Spare, .int .i64 x31.Loop, .int .i64 x31.Unused], .blk b2 24 [.slice pA0_0 p0.Classes.length pc0_0, .int .i64 p0.Each, .int .i64 p0.Laps, .int .i64 p0.Spare, .int .i64 p0.Loop, .int .i64 p0.Unused]] W228 := hS230
        refine OKS.r rfl rfl rfl rfl (fun _ => Runs.pickT rfl (congrArg Value.bool c220.out) rfl) ?_
        refine OKS.ra rfl rfl rfl rfl rfl rfl ?_
        refine OKS.e ?_
        refine thenQ_n ?_
        refine CK.ret ?_
        cases hm224
        exact ⟨rfl, _, (res1 rfl), φ225, _, (hS231.pick [] _ (by decide) rfl), rfl, rfl⟩
       ·have hm232 := hm212; rw [if_neg c220] at hm232; replace c220 := Hid.mk c220
        refine OKS.px rfl rfl rfl (wantedN rfl rfl (congrArg Value.bool (Bool.eq_false_iff.2 c220.out)) rfl) ?_
        refine OKS.r rfl rfl rfl rfl (fun _ => Runs.pickF rfl (congrArg Value.bool (Bool.eq_false_iff.2 c220.out)) rfl) ?_
        refine OKS.ra rfl rfl rfl rfl rfl rfl ?_
        refine OKS.e ?_
        refine thenQ_n ?_
        refine CK.ret ?_
        cases hm232
        exact ⟨rfl, _, (res1 rfl), φ213, _, (hS219.pick [] _ (by decide) rfl), rfl, rfl⟩
      ·have hm233 := hm195; rw [if_neg c203] at hm233; replace c203 := Hid.mk c203
       refine OKS.p rfl rfl rfl (wantedN rfl rfl (congrArg Value.bool (Bool.eq_false_iff.2 c203.out)) rfl) ?_
       refine OKS.p rfl rfl rfl (wantedN rfl rfl (congrArg Value.bool (Bool.eq_false_iff.2 c203.out)) rfl) ?_
       refine OKS.px rfl rfl rfl (wantedN rfl rfl (congrArg Value.bool (Bool.eq_false_iff.2 c203.out)) rfl) ?_
       refine OKS.r rfl rfl rfl rfl (fun _ => Runs.pickF rfl (congrArg Value.bool (Bool.eq_false_iff.2 c203.out)) rfl) ?_
       refine OKS.rm rfl rfl rfl rfl rfl rfl ?_
       refine OKS.px rfl rfl rfl (wantedN rfl rfl rfl rfl) ?_
       refine OKS.r rfl rfl rfl rfl (fun _ => Runs.pickF rfl rfl rfl) ?_
       refine OKS.ra rfl rfl rfl rfl rfl rfl ?_
       refine OKS.e ?_
       refine thenQ_n ?_
       refine CK.ret ?_
       cases hm233
       exact ⟨rfl, _, (res1 rfl), φ196, _, (hS202.pick [] _ (by decide) rfl), rfl, rfl⟩
     ·have hm234 := hm177; rw [if_neg c178] at hm234; replace c178 := Hid.mk c178
      refine OKS.p rfl rfl rfl (wantedN rfl rfl (decF c178.out) rfl) ?_
      refine OKS.p rfl rfl rfl (wantedN rfl rfl (decF c178.out) rfl) ?_
      refine OKS.px rfl rfl rfl (wantedN rfl rfl (decF c178.out) rfl) ?_
      refine OKS.r rfl rfl rfl rfl (fun _ => Runs.pickF rfl (decF c178.out) rfl) ?_
      refine OKS.rm rfl rfl rfl rfl rfl rfl ?_
      refine OKS.p rfl rfl rfl (wantedN rfl rfl rfl rfl) ?_
      refine OKS.p rfl rfl rfl (wantedN rfl rfl rfl rfl) ?_
      refine OKS.px rfl rfl rfl (wantedN rfl rfl rfl rfl) ?_
      refine OKS.r rfl rfl rfl rfl (fun _ => Runs.pickF rfl rfl rfl) ?_
      refine OKS.rm rfl rfl rfl rfl rfl rfl ?_
      refine OKS.px rfl rfl rfl (wantedN rfl rfl rfl rfl) ?_
      refine OKS.r rfl rfl rfl rfl (fun _ => Runs.pickF rfl rfl rfl) ?_
      refine OKS.ra rfl rfl rfl rfl rfl rfl ?_
      refine OKS.e ?_
      refine thenQ_n ?_
      refine CK.ret ?_
      cases hm234
      exact ⟨rfl, _, (res1 rfl), φ151, _, (hS164.pick [] _ (by decide) rfl), rfl, rfl⟩
    ·have hm235 := hm150; rw [if_neg c176] at hm235; replace c176 := Hid.mk c176
     refine OKS.p rfl rfl rfl (wantedN rfl rfl (decF c176.out) rfl) ?_
     refine OKS.p rfl rfl rfl (wantedN rfl rfl (decF c176.out) rfl) ?_
     refine OKS.p rfl rfl rfl (wantedN rfl rfl (decF c176.out) rfl) ?_
     refine OKS.r rfl rfl rfl rfl (fun _ => Runs.pickF rfl (decF c176.out) rfl) ?_
     refine OKS.rm rfl rfl rfl rfl rfl rfl ?_
     refine OKS.p rfl rfl rfl (wantedN rfl rfl rfl rfl) ?_
     refine OKS.p rfl rfl rfl (wantedN rfl rfl rfl rfl) ?_
     refine OKS.px rfl rfl rfl (wantedN rfl rfl rfl rfl) ?_
     refine OKS.r rfl rfl rfl rfl (fun _ => Runs.pickF rfl rfl rfl) ?_
     refine OKS.rm rfl rfl rfl rfl rfl rfl ?_
     refine OKS.p rfl rfl rfl (wantedN rfl rfl rfl rfl) ?_
     refine OKS.p rfl rfl rfl (wantedN rfl rfl rfl rfl) ?_
     refine OKS.px rfl rfl rfl (wantedN rfl rfl rfl rfl) ?_
     refine OKS.r rfl rfl rfl rfl (fun _ => Runs.pickF rfl rfl rfl) ?_
     refine OKS.rm rfl rfl rfl rfl rfl rfl ?_
     refine OKS.px rfl rfl rfl (wantedN rfl rfl rfl rfl) ?_
     refine OKS.r rfl rfl rfl rfl (fun _ => Runs.pickF rfl rfl rfl) ?_
     refine OKS.ra rfl rfl rfl rfl rfl rfl ?_
     refine OKS.e ?_
     refine thenQ_n ?_
     refine CK.ret ?_
     cases hm235
     exact ⟨rfl, _, (res1 rfl), φ151, _, (hS164.pick [] _ (by decide) rfl), rfl, rfl⟩
   ·have hm236 := hm106; rw [if_neg c114] at hm236; replace c114 := Hid.mk c114
    refine CK.condT (decT c114.out) ?_
    refine CK.seq ?_
    refine CK.reg (ks := []) (.fl 0 (.nil)) rfl ?_
    refine OKS.ra rfl rfl rfl rfl rfl rfl ?_
    refine OKS.e ?_
    refine thenQ_n ?_
    refine CK.ret ?_
    refine thenQ_r ?_
    cases hm236
    exact ⟨rfl, _, (res1 rfl), φ107, _, (hS113.pick [] _ (by decide) rfl), rfl, rfl⟩
end Go.Proofs.YtfdnbaahdjlapaaGreat
