/- Walks, printed by a program: each function does what its model says. -/
import Derived.Test.YtfdnbaahdjlapaaGreatEnc
import Derived.Test.YtfdnbaahdjlapaaGreatW0
namespace Go.Proofs.YtfdnbaahdjlapaaGreat
open Go.KL
set_option maxHeartbeats 4000000 in
theorem w_klisterref08_bad (p0 : List Int) (pA0 : Option Addr) (pc0 : Nat) (w : World) (φ : PHeap) (hS : St ⟨w, [], φ⟩ φ [] w) (ha0 : Sl φ 1 pA0 pc0 p0.length (List.flatMap encI p0)) {r : Bool} (hm : m_klisterref08_bad p0 = some r) : Gv Tryz.prog 60 [.slice pA0 p0.length pc0] w (RetS w [] φ (fun φ_ L_ v => v = .bool r ∧ L_ = [])) := by
 unfold m_klisterref08_bad at hm
 refine Gv.of Tryz.func60 rfl Tryz.ntmps60 Tryz.results60 rfl ?_
 refine CK.seq ?_
 refine CK.reg (ks := []) (.fl 0 (.nil)) rfl ?_
 refine OKS.ra rfl rfl rfl rfl rfl rfl ?_
 refine OKS.e ?_
 refine thenQ_n ?_
 refine CK.seq ?_
 refine CK.seq ?_
 refine CK.reg (ks := []) (.fl 0 (.nil)) rfl ?_
 refine OKS.ra rfl rfl rfl rfl rfl rfl ?_
 refine OKS.e ?_
 refine thenQ_n ?_
 refine CK.block ?_
 have q := jn_some hm
 obtain ⟨r3, hX4⟩ := q
 have q := forR_le hX4
 obtain ⟨hle5, hf6⟩ := q
 replace hle5 := Hid.mk hle5
 refine CK.forN (fun k2 _ σ_ w_ => ∃ (φ_ : PHeap), σ_ 3 = .int .i64 (↑k2 : Int) ∧ σ_ 0 = .slice pA0 p0.length pc0 ∧ PHeap.Le φ φ_ ∧ St ⟨w, [], φ⟩ φ_ [] w_) hf6 ?_ ?_ ?_
 ·exact ⟨φ, rfl, rfl, (PHeap.Le.refl _), hS⟩
 ·rintro k2 ⟨⟩ xx9 σ7 W8 hk12 ⟨φ14, fi13, f17, le15, hS16⟩ hx10 hb11
  try dsimp only at hx10
  have c18 : Hid ((↑k2 : Int) < (↑p0.length : Int)) := Hid.mk (lp_lt0 hk12)
  replace hk12 := Hid.mk hk12
  have hi19 : Hid (w64 ((↑k2 : Int) + 1) = (↑(k2 + 1) : Int)) := Hid.mk (by have h1 := hle5.out; have h2 := c18.out; rw [w64_in] <;> omega)
  refine CK.seq ?_
  refine CK.seq ?_
  refine CK.reg (ks := []) (.fl 0 (.fl 1 (.fl 2 (.fl 3 (.nil))))) rfl ?_
  refine OKS.rm rfl rfl rfl rfl rfl fi13 ?_
  refine OKS.rm rfl rfl rfl rfl rfl f17 ?_
  refine OKS.r rfl rfl rfl rfl (fun _ => Runs.len rfl rfl Tryz.runUnderlying22) ?_
  refine OKS.r rfl rfl rfl rfl (fun _ => Runs.lss rfl rfl rfl) ?_
  refine OKS.e ?_
  refine thenQ_n ?_
  refine CK.condT (decT c18.out) ?_
  refine CK.skip ?_
  refine thenQ_n ?_
  refine CK.seq ?_
  refine CK.block ?_
  refine CK.seq ?_
  refine CK.reg (ks := []) (.fl 0 (.fl 1 (.fl 2 (.fl 3 (.fx 4 (.nil) .stop))))) rfl ?_
  refine OKS.rm rfl rfl rfl rfl rfl f17 ?_
  refine OKS.rm rfl rfl rfl rfl rfl fi13 ?_
  have q := bnd hx10
  obtain ⟨x20, h21, hm22⟩ := q
  have h23 := ha0.le le15
  have q := h23.el (fun _ => rfl) (idx_get h21)
  obtain ⟨b24, off25, hA26, hC27⟩ := q
  refine OKS.r rfl rfl rfl rfl (fun _ => Runs.iaN rfl rfl hA26 rfl Tryz.runUnderlying22 Tryz.sizeOf3 (idx_lt h21)) ?_
  refine OKS.m rfl rfl rfl rfl (hS16.ldC (f := 0) hC27 (v := .int .i64 x20) rfl rfl Tryz.isAgg3 rfl) rfl ?_
  have q := bnd hm22
  obtain ⟨x28, h29, hm30⟩ := q
  refine OKS.callH 0 rfl rfl rfl rfl (Enters.mk rfl rfl Tryz.call59 (mapcons rfl (mapcons rfl (mapcons rfl mapnil))) rfl) hS16 (fun hs => w_klisterref08_off x20 0 3 W8 φ14 hs h29) (.inr rfl) ?_
  rintro φ31 L32 v33 W34 le35 hS36 ⟨rfl, rfl⟩
  have hS37 : St ⟨w, [], φ⟩ φ31 [] W34 := hS36
  refine OKS.e ?_
  refine thenQ_n ?_
  by_cases c38 : x28 = true
  ·have hm39 := hm30; rw [if_pos c38] at hm39; replace c38 := Hid.mk c38
   refine CK.condT (congrArg Value.bool c38.out) ?_
   refine CK.seq ?_
   refine CK.reg (ks := []) (.fl 0 (.nil)) rfl ?_
   refine OKS.ra rfl rfl rfl rfl rfl rfl ?_
   refine OKS.e ?_
   refine thenQ_n ?_
   refine CK.ret ?_
   refine blockQ_r ?_
   refine thenQ_r ?_
   have q := esc_spec hm39
   obtain ⟨v40, hm41, e42⟩ := q
   obtain rfl := jn_inr hm hX4 (hb11 v40 e42)
   refine thenQ_r ?_
   refine blockQ_r ?_
   refine thenQ_r ?_
   cases hm41
   exact ⟨rfl, _, (res1 rfl), φ31, _, hS37, rfl, rfl⟩
  ·have hm43 := hm30; rw [if_neg c38] at hm43; replace c38 := Hid.mk c38
   refine CK.condF (congrArg Value.bool (Bool.eq_false_iff.2 c38.out)) ?_
   refine CK.skip ?_
   refine blockQ_n ?_
   refine thenQ_n ?_
   refine CK.reg (ks := []) (.fl 0 (.fl 1 (.fl 2 (.nil)))) rfl ?_
   refine OKS.rm rfl rfl rfl rfl rfl fi13 ?_
   refine OKS.r rfl rfl rfl rfl (fun _ => Runs.to (Runs.addw rfl rfl rfl) (congrArg (Value.int .i64) hi19.out)) ?_
   refine OKS.ra rfl rfl rfl rfl rfl rfl ?_
   refine OKS.e ?_
   obtain rfl := Option.some.inj hm43
   exact thenQ_n ⟨rfl, _, rfl, ⟨φ31, rfl, f17, (le15.trans le35), hS37⟩⟩
 ·rintro ⟨⟩ σ44 W45 ⟨φ48, fi47, f51, le49, hS50⟩ hb46
  have hm52 := jn_inl hm hX4 hb46
  try dsimp only at hm52
  have c53 : Hid (¬ ((↑(((↑p0.length : Int) : Int) - 0).toNat : Int) < (↑p0.length : Int))) := Hid.mk (lp_end0)
  refine CK.seq ?_
  refine CK.seq ?_
  refine CK.reg (ks := []) (.fl 0 (.fl 1 (.fl 2 (.fl 3 (.nil))))) rfl ?_
  refine OKS.rm rfl rfl rfl rfl rfl fi47 ?_
  refine OKS.rm rfl rfl rfl rfl rfl f51 ?_
  refine OKS.r rfl rfl rfl rfl (fun _ => Runs.len rfl rfl Tryz.runUnderlying22) ?_
  refine OKS.r rfl rfl rfl rfl (fun _ => Runs.lss rfl rfl rfl) ?_
  refine OKS.e ?_
  refine thenQ_n ?_
  refine CK.condF (decF c53.out) ?_
  refine CK.exit ?_
  refine thenQ_e ?_
  refine thenQ_e ?_
  refine blockQ_h ?_
  refine thenQ_n ?_
  refine CK.seq ?_
  refine CK.reg (ks := []) (.fl 0 (.nil)) rfl ?_
  refine OKS.ra rfl rfl rfl rfl rfl rfl ?_
  refine OKS.e ?_
  refine thenQ_n ?_
  refine CK.ret ?_
  cases hm52
  exact ⟨rfl, _, (res1 rfl), φ48, _, hS50, rfl, rfl⟩

set_option maxHeartbeats 4000000 in
theorem w_klisterref08_CheckRules (p0 : T_klisterref08_Rules) (pA0_0 : Option Addr) (pc0_0 : Nat) (w : World) (φ : PHeap) (hS : St ⟨w, [], φ⟩ φ [] w) (ha0 : Sl φ 1 pA0_0 pc0_0 p0.Classes.length (List.flatMap encI p0.Classes)) {r : Int} (hm : m_klisterref08_CheckRules p0 = some r) : Gv Tryz.prog 12 [.agg #[.slice pA0_0 p0.Classes.length pc0_0, .int .i64 p0.Each, .int .i64 p0.Laps, .int .i64 p0.Spare, .int .i64 p0.Loop, .int .i64 p0.Unused]] w (RetS w [] φ (fun φ_ L_ v => v = .int .i64 r ∧ L_ = [])) := by
 unfold m_klisterref08_CheckRules at hm
 refine Gv.of Tryz.func12 rfl Tryz.ntmps12 Tryz.results12 rfl ?_
 refine CK.seq ?_
 refine CK.reg (ks := []) (.fx 0 (.fl 1 (.nil)) .stop) rfl ?_
 refine OKS.box (cs := [.slice pA0_0 p0.Classes.length pc0_0, .int .i64 p0.Each, .int .i64 p0.Laps, .int .i64 p0.Spare, .int .i64 p0.Loop, .int .i64 p0.Unused]) rfl rfl rfl rfl rfl rfl (by rfl) hS ?_
 intro W1 b2 hS3
 refine OKS.ra rfl rfl rfl rfl rfl rfl ?_
 refine OKS.e ?_
 refine thenQ_n ?_
 refine CK.seq ?_
 refine CK.seq ?_
 refine CK.reg (ks := []) (.fl 0 (.fl 1 (.fl 2 (.fx 3 (.nil) .stop)))) rfl ?_
 refine OKS.r rfl rfl rfl rfl (fun _ => Runs.fa rfl rfl Tryz.runUnderlying32 rfl Tryz.sizeOf22) ?_
 refine OKS.m rfl rfl rfl rfl (hS3.ldB (j := 0) rfl rfl rfl Tryz.isAgg22 (v := .slice pA0_0 p0.Classes.length pc0_0) rfl) rfl ?_
 refine OKS.r rfl rfl rfl rfl (fun _ => Runs.len rfl rfl Tryz.runUnderlying22) ?_
 have q := bnd hm
 obtain ⟨x5, h6, hm7⟩ := q
 refine OKS.callH 0 rfl rfl rfl rfl (Enters.mk rfl rfl Tryz.call59 (mapcons rfl (mapcons rfl (mapcons rfl mapnil))) rfl) hS3 (fun hs => w_klisterref08_off (↑p0.Classes.length : Int) 1 4 W1 φ hs h6) (.inr rfl) ?_
 rintro φ8 L9 v10 W11 le12 hS13 ⟨rfl, rfl⟩
 have hS14 : St ⟨w, [], φ⟩ φ8 [.blk b2 32 [.slice pA0_0 p0.Classes.length pc0_0, .int .i64 p0.Each, .int .i64 p0.Laps, .int .i64 p0.Spare, .int .i64 p0.Loop, .int .i64 p0.Unused]] W11 := hS13
 refine OKS.e ?_
 refine thenQ_n ?_
 by_cases c15 : x5 = true
 ·have hm16 := hm7; rw [if_pos c15] at hm16; replace c15 := Hid.mk c15
  refine CK.condT (congrArg Value.bool c15.out) ?_
  refine CK.seq ?_
  refine CK.reg (ks := []) (.fl 0 (.nil)) rfl ?_
  refine OKS.ra rfl rfl rfl rfl rfl rfl ?_
  refine OKS.e ?_
  refine thenQ_n ?_
  refine CK.ret ?_
  refine thenQ_r ?_
  cases hm16
  exact ⟨rfl, _, (res1 rfl), φ8, _, (hS14.pick [] _ (by decide) rfl), rfl, rfl⟩
 ·have hm17 := hm7; rw [if_neg c15] at hm17; replace c15 := Hid.mk c15
  refine CK.condF (congrArg Value.bool (Bool.eq_false_iff.2 c15.out)) ?_
  refine CK.skip ?_
  refine thenQ_n ?_
  refine CK.seq ?_
  refine CK.seq ?_
  refine CK.reg (ks := []) (.fl 0 (.fl 1 (.fx 2 (.fl 3 (.fl 4 (.fl 5 (.fx 6 (.fl 7 (.fl 8 (.fl 9 (.fl 10 (.fx 11 (.fl 12 (.fl 13 (.fl 14 (.fl 15 (.fx 16 (.fl 17 (.fl 18 (.fl 19 (.fl 20 (.fx 21 (.fl 22 (.fl 23 (.fl 24 (.fl 25 (.fx 26 (.fl 27 (.nil)) .stop))))) .stop))))) .stop))))) .stop))))) .stop)))) .stop))) rfl ?_
  refine OKS.r rfl rfl rfl rfl (fun _ => Runs.fa rfl rfl Tryz.runUnderlying32 rfl Tryz.sizeOf22) ?_
  refine OKS.m rfl rfl rfl rfl (hS14.ldB (j := 0) rfl rfl rfl Tryz.isAgg22 (v := .slice pA0_0 p0.Classes.length pc0_0) rfl) rfl ?_
  have h18 := ha0.le le12
  have q := bnd hm17
  obtain ⟨x19, h20, hm21⟩ := q
  refine OKS.callH 0 rfl rfl rfl rfl (Enters.mk rfl rfl Tryz.call60 (mapcons rfl mapnil) rfl) hS14 (fun hs => w_klisterref08_bad p0.Classes pA0_0 pc0_0 W11 φ8 hs h18 h20) (.inr rfl) ?_
  rintro φ22 L23 v24 W25 le26 hS27 ⟨rfl, rfl⟩
  have hS28 : St ⟨w, [], φ⟩ φ22 [.blk b2 32 [.slice pA0_0 p0.Classes.length pc0_0, .int .i64 p0.Each, .int .i64 p0.Laps, .int .i64 p0.Spare, .int .i64 p0.Loop, .int .i64 p0.Unused]] W25 := hS27
  refine OKS.rm rfl rfl rfl rfl rfl rfl ?_
  by_cases c29 : x19 = true
  ·have hm30 := hm21; rw [if_pos c29] at hm30; replace c29 := Hid.mk c29
   refine OKS.p rfl rfl rfl (wantedN rfl rfl (congrArg Value.bool c29.out) rfl) ?_
   refine OKS.p rfl rfl rfl (wantedN rfl rfl (congrArg Value.bool c29.out) rfl) ?_
   refine OKS.px rfl rfl rfl (wantedN rfl rfl (congrArg Value.bool c29.out) rfl) ?_
   refine OKS.r rfl rfl rfl rfl (fun _ => Runs.pickT rfl (congrArg Value.bool c29.out) rfl) ?_
   refine OKS.rm rfl rfl rfl rfl rfl rfl ?_
   refine OKS.p rfl rfl rfl (wantedN rfl rfl rfl rfl) ?_
   refine OKS.p rfl rfl rfl (wantedN rfl rfl rfl rfl) ?_
   refine OKS.px rfl rfl rfl (wantedN rfl rfl rfl rfl) ?_
   refine OKS.r rfl rfl rfl rfl (fun _ => Runs.pickT rfl rfl rfl) ?_
   refine OKS.rm rfl rfl rfl rfl rfl rfl ?_
   refine OKS.p rfl rfl rfl (wantedN rfl rfl rfl rfl) ?_
   refine OKS.p rfl rfl rfl (wantedN rfl rfl rfl rfl) ?_
   refine OKS.px rfl rfl rfl (wantedN rfl rfl rfl rfl) ?_
   refine OKS.r rfl rfl rfl rfl (fun _ => Runs.pickT rfl rfl rfl) ?_
   refine OKS.rm rfl rfl rfl rfl rfl rfl ?_
   refine OKS.p rfl rfl rfl (wantedN rfl rfl rfl rfl) ?_
   refine OKS.p rfl rfl rfl (wantedN rfl rfl rfl rfl) ?_
   refine OKS.px rfl rfl rfl (wantedN rfl rfl rfl rfl) ?_
   refine OKS.r rfl rfl rfl rfl (fun _ => Runs.pickT rfl rfl rfl) ?_
   refine OKS.rm rfl rfl rfl rfl rfl rfl ?_
   refine OKS.p rfl rfl rfl (wantedN rfl rfl rfl rfl) ?_
   refine OKS.p rfl rfl rfl (wantedN rfl rfl rfl rfl) ?_
   refine OKS.px rfl rfl rfl (wantedN rfl rfl rfl rfl) ?_
   refine OKS.r rfl rfl rfl rfl (fun _ => Runs.pickT rfl rfl rfl) ?_
   refine OKS.e ?_
   refine thenQ_n ?_
   refine CK.condT rfl ?_
   refine CK.seq ?_
   refine CK.reg (ks := []) (.fl 0 (.nil)) rfl ?_
   refine OKS.ra rfl rfl rfl rfl rfl rfl ?_
   refine OKS.e ?_
   refine thenQ_n ?_
   refine CK.ret ?_
   refine thenQ_r ?_
   cases hm30
   exact ⟨rfl, _, (res1 rfl), φ22, _, (hS28.pick [] _ (by decide) rfl), rfl, rfl⟩
  ·have hm31 := hm21; rw [if_neg c29] at hm31; replace c29 := Hid.mk c29
   refine OKS.r rfl rfl rfl (wantedY rfl rfl (congrArg Value.bool (Bool.eq_false_iff.2 c29.out))) (fun _ => Runs.fa rfl rfl Tryz.runUnderlying32 rfl Tryz.sizeOf3) ?_
   refine OKS.m rfl rfl rfl (wantedY rfl rfl (congrArg Value.bool (Bool.eq_false_iff.2 c29.out))) (hS28.ldB (j := 0) rfl rfl rfl Tryz.isAgg3 (v := .int .i64 p0.Each) rfl) rfl ?_
   have q := bnd hm31
   obtain ⟨x32, h33, hm34⟩ := q
   refine OKS.callH 0 rfl rfl rfl (wantedY rfl rfl (congrArg Value.bool (Bool.eq_false_iff.2 c29.out))) (Enters.mk rfl rfl Tryz.call59 (mapcons rfl (mapcons rfl (mapcons rfl mapnil))) rfl) hS28 (fun hs => w_klisterref08_off p0.Each 1 4 W25 φ22 hs h33) (.inr rfl) ?_
   rintro φ35 L36 v37 W38 le39 hS40 ⟨rfl, rfl⟩
   have hS41 : St ⟨w, [], φ⟩ φ35 [.blk b2 32 [.slice pA0_0 p0.Classes.length pc0_0, .int .i64 p0.Each, .int .i64 p0.Laps, .int .i64 p0.Spare, .int .i64 p0.Loop, .int .i64 p0.Unused]] W38 := hS40
   refine OKS.r rfl rfl rfl rfl (fun _ => Runs.pickF rfl (congrArg Value.bool (Bool.eq_false_iff.2 c29.out)) rfl) ?_
   refine OKS.rm rfl rfl rfl rfl rfl rfl ?_
   by_cases c42 : x32 = true
   ·have hm43 := hm34; rw [if_pos c42] at hm43; replace c42 := Hid.mk c42
    refine OKS.p rfl rfl rfl (wantedN rfl rfl (congrArg Value.bool c42.out) rfl) ?_
    refine OKS.p rfl rfl rfl (wantedN rfl rfl (congrArg Value.bool c42.out) rfl) ?_
    refine OKS.px rfl rfl rfl (wantedN rfl rfl (congrArg Value.bool c42.out) rfl) ?_
    refine OKS.r rfl rfl rfl rfl (fun _ => Runs.pickT rfl (congrArg Value.bool c42.out) rfl) ?_
    refine OKS.rm rfl rfl rfl rfl rfl rfl ?_
    refine OKS.p rfl rfl rfl (wantedN rfl rfl rfl rfl) ?_
    refine OKS.p rfl rfl rfl (wantedN rfl rfl rfl rfl) ?_
    refine OKS.px rfl rfl rfl (wantedN rfl rfl rfl rfl) ?_
    refine OKS.r rfl rfl rfl rfl (fun _ => Runs.pickT rfl rfl rfl) ?_
    refine OKS.rm rfl rfl rfl rfl rfl rfl ?_
    refine OKS.p rfl rfl rfl (wantedN rfl rfl rfl rfl) ?_
    refine OKS.p rfl rfl rfl (wantedN rfl rfl rfl rfl) ?_
    refine OKS.px rfl rfl rfl (wantedN rfl rfl rfl rfl) ?_
    refine OKS.r rfl rfl rfl rfl (fun _ => Runs.pickT rfl rfl rfl) ?_
    refine OKS.rm rfl rfl rfl rfl rfl rfl ?_
    refine OKS.p rfl rfl rfl (wantedN rfl rfl rfl rfl) ?_
    refine OKS.p rfl rfl rfl (wantedN rfl rfl rfl rfl) ?_
    refine OKS.px rfl rfl rfl (wantedN rfl rfl rfl rfl) ?_
    refine OKS.r rfl rfl rfl rfl (fun _ => Runs.pickT rfl rfl rfl) ?_
    refine OKS.e ?_
    refine thenQ_n ?_
    refine CK.condT rfl ?_
    refine CK.seq ?_
    refine CK.reg (ks := []) (.fl 0 (.nil)) rfl ?_
    refine OKS.ra rfl rfl rfl rfl rfl rfl ?_
    refine OKS.e ?_
    refine thenQ_n ?_
    refine CK.ret ?_
    refine thenQ_r ?_
    cases hm43
    exact ⟨rfl, _, (res1 rfl), φ35, _, (hS41.pick [] _ (by decide) rfl), rfl, rfl⟩
   ·have hm44 := hm34; rw [if_neg c42] at hm44; replace c42 := Hid.mk c42
    refine OKS.r rfl rfl rfl (wantedY rfl rfl (congrArg Value.bool (Bool.eq_false_iff.2 c42.out))) (fun _ => Runs.fa rfl rfl Tryz.runUnderlying32 rfl Tryz.sizeOf3) ?_
    refine OKS.m rfl rfl rfl (wantedY rfl rfl (congrArg Value.bool (Bool.eq_false_iff.2 c42.out))) (hS41.ldB (j := 0) rfl rfl rfl Tryz.isAgg3 (v := .int .i64 p0.Laps) rfl) rfl ?_
    have q := bnd hm44
    obtain ⟨x45, h46, hm47⟩ := q
    refine OKS.callH 0 rfl rfl rfl (wantedY rfl rfl (congrArg Value.bool (Bool.eq_false_iff.2 c42.out))) (Enters.mk rfl rfl Tryz.call59 (mapcons rfl (mapcons rfl (mapcons rfl mapnil))) rfl) hS41 (fun hs => w_klisterref08_off p0.Laps 1 5 W38 φ35 hs h46) (.inr rfl) ?_
    rintro φ48 L49 v50 W51 le52 hS53 ⟨rfl, rfl⟩
    have hS54 : St ⟨w, [], φ⟩ φ48 [.blk b2 32 [.slice pA0_0 p0.Classes.length pc0_0, .int .i64 p0.Each, .int .i64 p0.Laps, .int .i64 p0.Spare, .int .i64 p0.Loop, .int .i64 p0.Unused]] W51 := hS53
    refine OKS.r rfl rfl rfl rfl (fun _ => Runs.pickF rfl (congrArg Value.bool (Bool.eq_false_iff.2 c42.out)) rfl) ?_
    refine OKS.rm rfl rfl rfl rfl rfl rfl ?_
    by_cases c55 : x45 = true
    ·have hm56 := hm47; rw [if_pos c55] at hm56; replace c55 := Hid.mk c55
     refine OKS.p rfl rfl rfl (wantedN rfl rfl (congrArg Value.bool c55.out) rfl) ?_
     refine OKS.p rfl rfl rfl (wantedN rfl rfl (congrArg Value.bool c55.out) rfl) ?_
     refine OKS.px rfl rfl rfl (wantedN rfl rfl (congrArg Value.bool c55.out) rfl) ?_
     refine OKS.r rfl rfl rfl rfl (fun _ => Runs.pickT rfl (congrArg Value.bool c55.out) rfl) ?_
     refine OKS.rm rfl rfl rfl rfl rfl rfl ?_
     refine OKS.p rfl rfl rfl (wantedN rfl rfl rfl rfl) ?_
     refine OKS.p rfl rfl rfl (wantedN rfl rfl rfl rfl) ?_
     refine OKS.px rfl rfl rfl (wantedN rfl rfl rfl rfl) ?_
     refine OKS.r rfl rfl rfl rfl (fun _ => Runs.pickT rfl rfl rfl) ?_
     refine OKS.rm rfl rfl rfl rfl rfl rfl ?_
     refine OKS.p rfl rfl rfl (wantedN rfl rfl rfl rfl) ?_
     refine OKS.p rfl rfl rfl (wantedN rfl rfl rfl rfl) ?_
     refine OKS.px rfl rfl rfl (wantedN rfl rfl rfl rfl) ?_
     refine OKS.r rfl rfl rfl rfl (fun _ => Runs.pickT rfl rfl rfl) ?_
     refine OKS.e ?_
     refine thenQ_n ?_
     refine CK.condT rfl ?_
     refine CK.seq ?_
     refine CK.reg (ks := []) (.fl 0 (.nil)) rfl ?_
     refine OKS.ra rfl rfl rfl rfl rfl rfl ?_
     refine OKS.e ?_
     refine thenQ_n ?_
     refine CK.ret ?_
     refine thenQ_r ?_
     cases hm56
     exact ⟨rfl, _, (res1 rfl), φ48, _, (hS54.pick [] _ (by decide) rfl), rfl, rfl⟩
    ·have hm57 := hm47; rw [if_neg c55] at hm57; replace c55 := Hid.mk c55
     refine OKS.r rfl rfl rfl (wantedY rfl rfl (congrArg Value.bool (Bool.eq_false_iff.2 c55.out))) (fun _ => Runs.fa rfl rfl Tryz.runUnderlying32 rfl Tryz.sizeOf3) ?_
     refine OKS.m rfl rfl rfl (wantedY rfl rfl (congrArg Value.bool (Bool.eq_false_iff.2 c55.out))) (hS54.ldB (j := 0) rfl rfl rfl Tryz.isAgg3 (v := .int .i64 p0.Spare) rfl) rfl ?_
     have q := bnd hm57
     obtain ⟨x58, h59, hm60⟩ := q
     refine OKS.callH 0 rfl rfl rfl (wantedY rfl rfl (congrArg Value.bool (Bool.eq_false_iff.2 c55.out))) (Enters.mk rfl rfl Tryz.call59 (mapcons rfl (mapcons rfl (mapcons rfl mapnil))) rfl) hS54 (fun hs => w_klisterref08_off p0.Spare 0 600 W51 φ48 hs h59) (.inr rfl) ?_
     rintro φ61 L62 v63 W64 le65 hS66 ⟨rfl, rfl⟩
     have hS67 : St ⟨w, [], φ⟩ φ61 [.blk b2 32 [.slice pA0_0 p0.Classes.length pc0_0, .int .i64 p0.Each, .int .i64 p0.Laps, .int .i64 p0.Spare, .int .i64 p0.Loop, .int .i64 p0.Unused]] W64 := hS66
     refine OKS.r rfl rfl rfl rfl (fun _ => Runs.pickF rfl (congrArg Value.bool (Bool.eq_false_iff.2 c55.out)) rfl) ?_
     refine OKS.rm rfl rfl rfl rfl rfl rfl ?_
     by_cases c68 : x58 = true
     ·have hm69 := hm60; rw [if_pos c68] at hm69; replace c68 := Hid.mk c68
      refine OKS.p rfl rfl rfl (wantedN rfl rfl (congrArg Value.bool c68.out) rfl) ?_
      refine OKS.p rfl rfl rfl (wantedN rfl rfl (congrArg Value.bool c68.out) rfl) ?_
      refine OKS.px rfl rfl rfl (wantedN rfl rfl (congrArg Value.bool c68.out) rfl) ?_
      refine OKS.r rfl rfl rfl rfl (fun _ => Runs.pickT rfl (congrArg Value.bool c68.out) rfl) ?_
      refine OKS.rm rfl rfl rfl rfl rfl rfl ?_
      refine OKS.p rfl rfl rfl (wantedN rfl rfl rfl rfl) ?_
      refine OKS.p rfl rfl rfl (wantedN rfl rfl rfl rfl) ?_
      refine OKS.px rfl rfl rfl (wantedN rfl rfl rfl rfl) ?_
      refine OKS.r rfl rfl rfl rfl (fun _ => Runs.pickT rfl rfl rfl) ?_
      refine OKS.e ?_
      refine thenQ_n ?_
      refine CK.condT rfl ?_
      refine CK.seq ?_
      refine CK.reg (ks := []) (.fl 0 (.nil)) rfl ?_
      refine OKS.ra rfl rfl rfl rfl rfl rfl ?_
      refine OKS.e ?_
      refine thenQ_n ?_
      refine CK.ret ?_
      refine thenQ_r ?_
      cases hm69
      exact ⟨rfl, _, (res1 rfl), φ61, _, (hS67.pick [] _ (by decide) rfl), rfl, rfl⟩
     ·have hm70 := hm60; rw [if_neg c68] at hm70; replace c68 := Hid.mk c68
      refine OKS.r rfl rfl rfl (wantedY rfl rfl (congrArg Value.bool (Bool.eq_false_iff.2 c68.out))) (fun _ => Runs.fa rfl rfl Tryz.runUnderlying32 rfl Tryz.sizeOf3) ?_
      refine OKS.m rfl rfl rfl (wantedY rfl rfl (congrArg Value.bool (Bool.eq_false_iff.2 c68.out))) (hS67.ldB (j := 0) rfl rfl rfl Tryz.isAgg3 (v := .int .i64 p0.Loop) rfl) rfl ?_
      have q := bnd hm70
      obtain ⟨x71, h72, hm73⟩ := q
      refine OKS.callH 0 rfl rfl rfl (wantedY rfl rfl (congrArg Value.bool (Bool.eq_false_iff.2 c68.out))) (Enters.mk rfl rfl Tryz.call59 (mapcons rfl (mapcons rfl (mapcons rfl mapnil))) rfl) hS67 (fun hs => w_klisterref08_off p0.Loop 0 600 W64 φ61 hs h72) (.inr rfl) ?_
      rintro φ74 L75 v76 W77 le78 hS79 ⟨rfl, rfl⟩
      have hS80 : St ⟨w, [], φ⟩ φ74 [.blk b2 32 [.slice pA0_0 p0.Classes.length pc0_0, .int .i64 p0.Each, .int .i64 p0.Laps, .int .i64 p0.Spare, .int .i64 p0.Loop, .int .i64 p0.Unused]] W77 := hS79
      refine OKS.r rfl rfl rfl rfl (fun _ => Runs.pickF rfl (congrArg Value.bool (Bool.eq_false_iff.2 c68.out)) rfl) ?_
      refine OKS.rm rfl rfl rfl rfl rfl rfl ?_
      by_cases c81 : x71 = true
      ·have hm82 := hm73; rw [if_pos c81] at hm82; replace c81 := Hid.mk c81
       refine OKS.p rfl rfl rfl (wantedN rfl rfl (congrArg Value.bool c81.out) rfl) ?_
       refine OKS.p rfl rfl rfl (wantedN rfl rfl (congrArg Value.bool c81.out) rfl) ?_
       refine OKS.px rfl rfl rfl (wantedN rfl rfl (congrArg Value.bool c81.out) rfl) ?_
       refine OKS.r rfl rfl rfl rfl (fun _ => Runs.pickT rfl (congrArg Value.bool c81.out) rfl) ?_
       refine OKS.e ?_
       refine thenQ_n ?_
       refine CK.condT rfl ?_
       refine CK.seq ?_
       refine CK.reg (ks := []) (.fl 0 (.nil)) rfl ?_
       refine OKS.ra rfl rfl rfl rfl rfl rfl ?_
       refine OKS.e ?_
       refine thenQ_n ?_
       refine CK.ret ?_
       refine thenQ_r ?_
       cases hm82
       exact ⟨rfl, _, (res1 rfl), φ74, _, (hS80.pick [] _ (by decide) rfl), rfl, rfl⟩
      ·have hm83 := hm73; rw [if_neg c81] at hm83; replace c81 := Hid.mk c81
       refine OKS.r rfl rfl rfl (wantedY rfl rfl (congrArg Value.bool (Bool.eq_false_iff.2 c81.out))) (fun _ => Runs.fa rfl rfl Tryz.runUnderlying32 rfl Tryz.sizeOf3) ?_
       refine OKS.m rfl rfl rfl (wantedY rfl rfl (congrArg Value.bool (Bool.eq_false_iff.2 c81.out))) (hS80.ldB (j := 0) rfl rfl rfl Tryz.isAgg3 (v := .int .i64 p0.Unused) rfl) rfl ?_
       have q := bnd hm83
       obtain ⟨x84, h85, hm86⟩ := q
       refine OKS.callH 0 rfl rfl rfl (wantedY rfl rfl (congrArg Value.bool (Bool.eq_false_iff.2 c81.out))) (Enters.mk rfl rfl Tryz.call59 (mapcons rfl (mapcons rfl (mapcons rfl mapnil))) rfl) hS80 (fun hs => w_klisterref08_off p0.Unused 0 6000 W77 φ74 hs h85) (.inr rfl) ?_
       rintro φ87 L88 v89 W90 le91 hS92 ⟨rfl, rfl⟩
       have hS93 : St ⟨w, [], φ⟩ φ87 [.blk b2 32 [.slice pA0_0 p0.Classes.length pc0_0, .int .i64 p0.Each, .int .i64 p0.Laps, .int .i64 p0.Spare, .int .i64 p0.Loop, .int .i64 p0.Unused]] W90 := hS92
       refine OKS.r rfl rfl rfl rfl (fun _ => Runs.pickF rfl (congrArg Value.bool (Bool.eq_false_iff.2 c81.out)) rfl) ?_
       refine OKS.e ?_
       refine thenQ_n ?_
       by_cases c94 : x84 = true
       ·have hm95 := hm86; rw [if_pos c94] at hm95; replace c94 := Hid.mk c94
        refine CK.condT (congrArg Value.bool c94.out) ?_
        refine CK.seq ?_
        refine CK.reg (ks := []) (.fl 0 (.nil)) rfl ?_
        refine OKS.ra rfl rfl rfl rfl rfl rfl ?_
        refine OKS.e ?_
        refine thenQ_n ?_
        refine CK.ret ?_
        refine thenQ_r ?_
        cases hm95
        exact ⟨rfl, _, (res1 rfl), φ87, _, (hS93.pick [] _ (by decide) rfl), rfl, rfl⟩
       ·have hm96 := hm86; rw [if_neg c94] at hm96; replace c94 := Hid.mk c94
        refine CK.condF (congrArg Value.bool (Bool.eq_false_iff.2 c94.out)) ?_
        refine CK.skip ?_
        refine thenQ_n ?_
        refine CK.seq ?_
        refine CK.reg (ks := []) (.fl 0 (.nil)) rfl ?_
        refine OKS.ra rfl rfl rfl rfl rfl rfl ?_
        refine OKS.e ?_
        refine thenQ_n ?_
        refine CK.ret ?_
        cases hm96
        exact ⟨rfl, _, (res1 rfl), φ87, _, (hS93.pick [] _ (by decide) rfl), rfl, rfl⟩

set_option maxHeartbeats 4000000 in
theorem w_relay_Shot (p0 : List Bool) (pA0 : Option Addr) (pc0 : Nat) (w : World) (φ : PHeap) (hS : St ⟨w, [], φ⟩ φ [] w) (ha0 : Sl φ 1 pA0 pc0 p0.length (List.flatMap encT p0)) {r : T_relay_Shooting × Int} (hm : m_relay_Shot p0 = some r) : Gv Tryz.prog 13 [.slice pA0 p0.length pc0] w (RetS w [] φ (fun φ_ L_ v => v = .tuple #[.agg #[.int .i64 r.1.Spares, .int .i64 r.1.Loops, .int .i64 r.1.Unused], .int .i64 r.2] ∧ L_ = [])) := by
 unfold m_relay_Shot at hm
 refine Gv.of Tryz.func13 rfl Tryz.ntmps13 Tryz.results13 rfl ?_
 refine CK.seq ?_
 refine CK.reg (ks := []) (.fx 0 (.fl 1 (.nil)) .stop) rfl ?_
 refine OKS.alloc (cs := [.int .i64 0, .int .i64 0, .int .i64 0]) rfl rfl rfl rfl rfl Tryz.zeroValue34 rfl hS ?_
 intro W1 b2 hS3
 refine OKS.ra rfl rfl rfl rfl rfl rfl ?_
 refine OKS.e ?_
 refine thenQ_n ?_
 refine CK.seq ?_
 refine CK.seq ?_
 refine CK.reg (ks := []) (.fl 0 (.fl 1 (.fx 2 (.fl 3 (.nil)) .stop))) rfl ?_
 refine OKS.rm rfl rfl rfl rfl rfl rfl ?_
 refine OKS.r rfl rfl rfl rfl (fun _ => Runs.len rfl rfl Tryz.runUnderlying25) ?_
 have q := bnd hm
 obtain ⟨x5, h6, hm7⟩ := q
 refine OKS.callH 0 rfl rfl rfl rfl (Enters.mk rfl rfl Tryz.call54 (mapcons rfl (mapcons rfl (mapcons rfl mapnil))) rfl) hS3 (fun hs => w_relay_in (↑p0.length : Int) 5 8 W1 φ hs h6) (.inr rfl) ?_
 rintro φ8 L9 v10 W11 le12 hS13 ⟨rfl, rfl⟩
 have hS14 : St ⟨w, [], φ⟩ φ8 [.blk b2 34 [.int .i64 0, .int .i64 0, .int .i64 0]] W11 := hS13
 refine OKS.r rfl rfl rfl rfl (fun _ => Runs.notT rfl rfl) ?_
 refine OKS.e ?_
 refine thenQ_n ?_
 by_cases c15 : x5 = true
 ·have hm16 := hm7; rw [if_pos c15] at hm16; replace c15 := Hid.mk c15
  refine CK.condF (congrArg (fun b => Value.bool (!b)) c15.out) ?_
  refine CK.skip ?_
  refine thenQ_n ?_
  refine CK.seq ?_
  refine CK.reg (ks := []) (.fl 0 (.nil)) rfl ?_
  refine OKS.ra rfl rfl rfl rfl rfl rfl ?_
  refine OKS.e ?_
  refine thenQ_n ?_
  refine CK.seq ?_
  refine CK.seq ?_
  refine CK.reg (ks := []) (.fl 0 (.fl 1 (.fl 2 (.nil)))) rfl ?_
  refine OKS.rm rfl rfl rfl rfl rfl rfl ?_
  refine OKS.r rfl rfl rfl rfl (fun _ => Runs.len rfl rfl Tryz.runUnderlying25) ?_
  refine OKS.rm rfl rfl rfl rfl rfl rfl ?_
  refine OKS.e ?_
  refine thenQ_n ?_
  refine CK.block ?_
  have q := jn_some hm16
  obtain ⟨r24, hX25⟩ := q
  have q := forR_le hX25
  obtain ⟨hle26, hf27⟩ := q
  replace hle26 := Hid.mk hle26
  refine CK.forN (fun k23 x22 σ_ w_ => ∃ (φ_ : PHeap), σ_ 15 = .int .i64 (↑k23 : Int) ∧ σ_ 0 = .slice pA0 p0.length pc0 ∧ σ_ 2 = .pointer (some ⟨b2, 0, none⟩) ∧ σ_ 4 = .int .i64 x22 ∧ σ_ 13 = .slice pA0 p0.length pc0 ∧ σ_ 14 = .int .i64 (↑p0.length : Int) ∧ PHeap.Le φ8 φ_ ∧ St ⟨w, [], φ⟩ φ_ [.blk b2 34 [.int .i64 0, .int .i64 0, .int .i64 0]] w_) hf27 ?_ ?_ ?_
  ·exact ⟨φ8, rfl, rfl, rfl, rfl, rfl, rfl, (PHeap.Le.refl _), hS14⟩
  ·rintro k23 x22 xx30 σ28 W29 hk33 ⟨φ35, fi34, f38, f39, f40, f41, f42, le36, hS37⟩ hx31 hb32
   have c43 : Hid ((↑k23 : Int) < (↑p0.length : Int)) := Hid.mk (lp_lt0 hk33)
   replace hk33 := Hid.mk hk33
   have hi44 : Hid (w64 ((↑k23 : Int) + 1) = (↑(k23 + 1) : Int)) := Hid.mk (by have h1 := hle26.out; have h2 := c43.out; rw [w64_in] <;> omega)
   refine CK.seq ?_
   refine CK.reg (ks := []) (.fl 0 (.nil)) rfl ?_
   refine OKS.r rfl rfl rfl rfl (fun _ => Runs.lss rfl fi34 f42) ?_
   refine OKS.e ?_
   refine thenQ_n ?_
   refine CK.seq ?_
   refine CK.condT (decT c43.out) ?_
   refine CK.skip ?_
   refine thenQ_n ?_
   refine CK.seq ?_
   refine CK.block ?_
   refine CK.seq ?_
   refine CK.reg (ks := []) (.fl 0 (.fl 1 (.fl 2 (.nil)))) rfl ?_
   have q := bnd hx31
   obtain ⟨x45, h46, hm47⟩ := q
   have h48 := ha0.le le12
   have h49 := h48.le le36
   have q := h49.el (fun _ => rfl) (idx_get h46)
   obtain ⟨b50, off51, hA52, hC53⟩ := q
   refine OKS.r rfl rfl rfl rfl (fun _ => Runs.iaN rfl f41 hA52 fi34 Tryz.runUnderlying25 Tryz.sizeOf4 (idx_lt h46)) ?_
   refine OKS.m rfl rfl rfl rfl (hS37.ldC (f := 0) hC53 (v := .bool x45) rfl rfl Tryz.isAgg4 rfl) rfl ?_
   refine OKS.ra rfl rfl rfl rfl rfl rfl ?_
   refine OKS.e ?_
   refine thenQ_n ?_
   refine CK.seq ?_
   refine CK.seq ?_
   refine CK.reg (ks := []) (.fl 0 (.fl 1 (.nil))) rfl ?_
   refine OKS.rm rfl rfl rfl rfl rfl f40 ?_
   refine OKS.r rfl rfl rfl rfl (fun _ => Runs.eql rfl rfl rfl) ?_
   refine OKS.e ?_
   refine thenQ_n ?_
   by_cases c54 : x22 = 0
   ·have hm55 := hm47; rw [if_pos c54] at hm55; replace c54 := Hid.mk c54
    refine CK.condT (decT c54.out) ?_
    refine CK.seq ?_
    refine CK.reg (ks := []) (.fl 0 (.fx 1 (.fl 2 (.nil)) .stop)) rfl ?_
    refine OKS.r rfl rfl rfl rfl (fun _ => Runs.build (pv := []) (z := [.int .i64 0, .int .i64 0, .int .i64 0]) (cs := [.int .i64 0, .int .i64 0, .int .i64 0]) rfl mapnil2 Tryz.zeroValue34 places34 rfl rfl) ?_
    refine OKS.st (j := 0) (vs := [.int .i64 0, .int .i64 0, .int .i64 0]) rfl rfl rfl rfl hS37 rfl f39 rfl rfl Tryz.sizeOf34 (Nat.le_of_ble_eq_true rfl) rfl rfl rfl ?_
    intro W56 hS57
    have hS58 : St ⟨w, [], φ⟩ φ35 [.blk b2 34 [.int .i64 0, .int .i64 0, .int .i64 0]] W56 := hS57
    refine OKS.ra rfl rfl rfl rfl rfl rfl ?_
    refine OKS.e ?_
    refine thenQ_n ?_
    refine CK.ret ?_
    refine thenQ_r ?_
    refine blockQ_r ?_
    refine thenQ_r ?_
    have q := esc_spec hm55
    obtain ⟨v59, hm60, e61⟩ := q
    obtain rfl := jn_inr hm16 hX25 (hb32 v59 e61)
    refine thenQ_r ?_
    refine blockQ_r ?_
    refine thenQ_r ?_
    cases hm60
    exact ⟨rfl, _, (resLn (rs := [.cell 2 34, .tmp 3]) (vs := [.agg #[.int .i64 0, .int .i64 0, .int .i64 0], .int .i64 8]) ⟨⟨_, f39, (ldvarA Tryz.isAgg34 Tryz.sizeOf34 (hS58.blkAt (k := 0) rfl) (vs := [.int .i64 0, .int .i64 0, .int .i64 0]) rfl rfl)⟩, ⟨rfl, trivial⟩⟩ rfl), φ35, _, (hS58.pick [] _ (by decide) rfl), rfl, rfl⟩
   ·have hm62 := hm47; rw [if_neg c54] at hm62; replace c54 := Hid.mk c54
    refine CK.condF (decF c54.out) ?_
    refine CK.skip ?_
    refine thenQ_n ?_
    refine CK.seq ?_
    refine CK.reg (ks := []) (.fl 0 (.nil)) rfl ?_
    refine OKS.rm rfl rfl rfl rfl rfl rfl ?_
    refine OKS.e ?_
    refine thenQ_n ?_
    by_cases c63 : x45 = true
    ·have hm64 := hm62; rw [if_pos c63] at hm64; replace c63 := Hid.mk c63
     refine CK.condT (congrArg Value.bool c63.out) ?_
     refine CK.reg (ks := []) (.fl 0 (.fl 1 (.fl 2 (.nil)))) rfl ?_
     refine OKS.rm rfl rfl rfl rfl rfl f40 ?_
     refine OKS.r rfl rfl rfl rfl (fun _ => Runs.subw rfl rfl rfl) ?_
     refine OKS.ra rfl rfl rfl rfl rfl rfl ?_
     refine OKS.e ?_
     refine blockQ_n ?_
     refine thenQ_n ?_
     refine CK.reg (ks := []) (.fl 0 (.fl 1 (.nil))) rfl ?_
     refine OKS.r rfl rfl rfl rfl (fun _ => Runs.to (Runs.addw rfl fi34 rfl) (congrArg (Value.int .i64) hi44.out)) ?_
     refine OKS.rm rfl rfl rfl rfl rfl rfl ?_
     refine OKS.e ?_
     obtain rfl := Option.some.inj hm64
     exact thenQ_n ⟨rfl, _, rfl, ⟨φ35, rfl, f38, f39, rfl, f41, f42, le36, hS37⟩⟩
    ·have hm66 := hm62; rw [if_neg c63] at hm66; replace c63 := Hid.mk c63
     refine CK.condF (congrArg Value.bool (Bool.eq_false_iff.2 c63.out)) ?_
     refine CK.skip ?_
     refine blockQ_n ?_
     refine thenQ_n ?_
     refine CK.reg (ks := []) (.fl 0 (.fl 1 (.nil))) rfl ?_
     refine OKS.r rfl rfl rfl rfl (fun _ => Runs.to (Runs.addw rfl fi34 rfl) (congrArg (Value.int .i64) hi44.out)) ?_
     refine OKS.rm rfl rfl rfl rfl rfl rfl ?_
     refine OKS.e ?_
     obtain rfl := Option.some.inj hm66
     exact thenQ_n ⟨rfl, _, rfl, ⟨φ35, rfl, f38, f39, f40, f41, f42, le36, hS37⟩⟩
  ·rintro y72 σ68 W69 ⟨φ73, fi71, f76, f77, f78, f79, f80, le74, hS75⟩ hb70
   have hm81 := jn_inl hm16 hX25 hb70
   have c82 : Hid (¬ ((↑(((↑p0.length : Int) : Int) - 0).toNat : Int) < (↑p0.length : Int))) := Hid.mk (lp_end0)
   refine CK.seq ?_
   refine CK.reg (ks := []) (.fl 0 (.nil)) rfl ?_
   refine OKS.r rfl rfl rfl rfl (fun _ => Runs.lss rfl fi71 f80) ?_
   refine OKS.e ?_
   refine thenQ_n ?_
   refine CK.seq ?_
   refine CK.condF (decF c82.out) ?_
   refine CK.exit ?_
   refine thenQ_e ?_
   refine thenQ_e ?_
   refine blockQ_h ?_
   refine thenQ_n ?_
   refine CK.seq ?_
   refine CK.reg (ks := []) (.fl 0 (.fl 1 (.fl 2 (.fl 3 (.fl 4 (.fx 5 (.fx 6 (.nil) .stop) .stop)))))) rfl ?_
   refine OKS.rm rfl rfl rfl rfl rfl f76 ?_
   refine OKS.r rfl rfl rfl rfl (fun _ => Runs.len rfl rfl Tryz.runUnderlying25) ?_
   refine OKS.r rfl rfl rfl rfl (fun _ => Runs.subw rfl rfl rfl) ?_
   refine OKS.rm rfl rfl rfl rfl rfl f78 ?_
   refine OKS.r rfl rfl rfl rfl (fun _ => Runs.build (pv := [(0, .int .i64 (w64 ((↑p0.length : Int) - 5))), (1, .int .i64 y72)]) (z := [.int .i64 0, .int .i64 0, .int .i64 0]) (cs := [.int .i64 (w64 ((↑p0.length : Int) - 5)), .int .i64 y72, .int .i64 0]) rfl (mapcons2 rfl (mapcons2 rfl mapnil2)) Tryz.zeroValue34 places34 rfl rfl) ?_
   refine OKS.alloc (cs := [.int .i64 0, .int .i64 0, .int .i64 0]) rfl rfl rfl rfl rfl Tryz.zeroValue34 rfl hS75 ?_
   intro W83 b84 hS85
   refine OKS.st (j := 0) (vs := [.int .i64 (w64 ((↑p0.length : Int) - 5)), .int .i64 y72, .int .i64 0]) rfl rfl rfl rfl hS85 rfl rfl rfl rfl Tryz.sizeOf34 (Nat.le_of_ble_eq_true rfl) rfl rfl rfl ?_
   intro W87 hS88
   have hS89 : St ⟨w, [], φ⟩ φ73 [.blk b84 34 [.int .i64 (w64 ((↑p0.length : Int) - 5)), .int .i64 y72, .int .i64 0], .blk b2 34 [.int .i64 0, .int .i64 0, .int .i64 0]] W87 := hS88
   refine OKS.e ?_
   refine thenQ_n ?_
   refine CK.seq ?_
   refine CK.seq ?_
   refine CK.reg (ks := []) (.fl 0 (.fl 1 (.nil))) rfl ?_
   refine OKS.rm rfl rfl rfl rfl rfl f78 ?_
   refine OKS.r rfl rfl rfl rfl (fun _ => Runs.gtr rfl rfl rfl) ?_
   refine OKS.e ?_
   refine thenQ_n ?_
   by_cases c90 : 0 < y72
   ·have hm91 := hm81; rw [if_pos c90] at hm91; replace c90 := Hid.mk c90
    refine CK.condT (decT c90.out) ?_
    refine CK.reg (ks := []) (.fl 0 (.fl 1 (.fl 2 (.fl 3 (.fx 4 (.nil) .stop))))) rfl ?_
    refine OKS.rm rfl rfl rfl rfl rfl f76 ?_
    refine OKS.r rfl rfl rfl rfl (fun _ => Runs.len rfl rfl Tryz.runUnderlying25) ?_
    refine OKS.r rfl rfl rfl rfl (fun _ => Runs.subw rfl rfl rfl) ?_
    refine OKS.r rfl rfl rfl rfl (fun _ => Runs.fa rfl rfl Tryz.runUnderlying34 rfl Tryz.sizeOf3) ?_
    refine OKS.st (j := 0) (vs := [.int .i64 (w64 (8 - (↑p0.length : Int)))]) rfl rfl rfl rfl hS89 rfl rfl rfl rfl Tryz.sizeOf3 (Nat.le_of_ble_eq_true rfl) rfl rfl rfl ?_
    intro W92 hS93
    have hS94 : St ⟨w, [], φ⟩ φ73 [.blk b84 34 [.int .i64 (w64 ((↑p0.length : Int) - 5)), .int .i64 y72, .int .i64 (w64 (8 - (↑p0.length : Int)))], .blk b2 34 [.int .i64 0, .int .i64 0, .int .i64 0]] W92 := hS93
    refine OKS.e ?_
    refine thenQ_n ?_
    refine CK.seq ?_
    refine CK.reg (ks := []) (.fl 0 (.fx 1 (.fl 2 (.nil)) .stop)) rfl ?_
    refine OKS.m rfl rfl rfl rfl (hS94.ldBA (j := 0) rfl rfl rfl Tryz.isAgg34 Tryz.sizeOf34 (vs := [.int .i64 (w64 ((↑p0.length : Int) - 5)), .int .i64 y72, .int .i64 (w64 (8 - (↑p0.length : Int)))]) rfl rfl) rfl ?_
    refine OKS.st (j := 1) (vs := [.int .i64 (w64 ((↑p0.length : Int) - 5)), .int .i64 y72, .int .i64 (w64 (8 - (↑p0.length : Int)))]) rfl rfl rfl rfl hS94 rfl f77 rfl rfl Tryz.sizeOf34 (Nat.le_of_ble_eq_true rfl) rfl rfl rfl ?_
    intro W95 hS96
    have hS97 : St ⟨w, [], φ⟩ φ73 [.blk b84 34 [.int .i64 (w64 ((↑p0.length : Int) - 5)), .int .i64 y72, .int .i64 (w64 (8 - (↑p0.length : Int)))], .blk b2 34 [.int .i64 (w64 ((↑p0.length : Int) - 5)), .int .i64 y72, .int .i64 (w64 (8 - (↑p0.length : Int)))]] W95 := hS96
    refine OKS.ra rfl rfl rfl rfl rfl rfl ?_
    refine OKS.e ?_
    refine thenQ_n ?_
    refine CK.ret ?_
    cases hm91
    exact ⟨rfl, _, (resLn (rs := [.cell 2 34, .tmp 3]) (vs := [.agg #[.int .i64 (w64 ((↑p0.length : Int) - 5)), .int .i64 y72, .int .i64 (w64 (8 - (↑p0.length : Int)))], .int .i64 0]) ⟨⟨_, f77, (ldvarA Tryz.isAgg34 Tryz.sizeOf34 (hS97.blkAt (k := 1) rfl) (vs := [.int .i64 (w64 ((↑p0.length : Int) - 5)), .int .i64 y72, .int .i64 (w64 (8 - (↑p0.length : Int)))]) rfl rfl)⟩, ⟨rfl, trivial⟩⟩ rfl), φ73, _, (hS97.pick [] _ (by decide) rfl), rfl, rfl⟩
   ·have hm98 := hm81; rw [if_neg c90] at hm98; replace c90 := Hid.mk c90
    refine CK.condF (decF c90.out) ?_
    refine CK.skip ?_
    refine thenQ_n ?_
    refine CK.seq ?_
    refine CK.reg (ks := []) (.fl 0 (.fx 1 (.fl 2 (.nil)) .stop)) rfl ?_
    refine OKS.m rfl rfl rfl rfl (hS89.ldBA (j := 0) rfl rfl rfl Tryz.isAgg34 Tryz.sizeOf34 (vs := [.int .i64 (w64 ((↑p0.length : Int) - 5)), .int .i64 y72, .int .i64 0]) rfl rfl) rfl ?_
    refine OKS.st (j := 1) (vs := [.int .i64 (w64 ((↑p0.length : Int) - 5)), .int .i64 y72, .int .i64 0]) rfl rfl rfl rfl hS89 rfl f77 rfl rfl Tryz.sizeOf34 (Nat.le_of_ble_eq_true rfl) rfl rfl rfl ?_
    intro W99 hS100
    have hS101 : St ⟨w, [], φ⟩ φ73 [.blk b84 34 [.int .i64 (w64 ((↑p0.length : Int) - 5)), .int .i64 y72, .int .i64 0], .blk b2 34 [.int .i64 (w64 ((↑p0.length : Int) - 5)), .int .i64 y72, .int .i64 0]] W99 := hS100
    refine OKS.ra rfl rfl rfl rfl rfl rfl ?_
    refine OKS.e ?_
    refine thenQ_n ?_
    refine CK.ret ?_
    cases hm98
    exact ⟨rfl, _, (resLn (rs := [.cell 2 34, .tmp 3]) (vs := [.agg #[.int .i64 (w64 ((↑p0.length : Int) - 5)), .int .i64 y72, .int .i64 0], .int .i64 0]) ⟨⟨_, f77, (ldvarA Tryz.isAgg34 Tryz.sizeOf34 (hS101.blkAt (k := 1) rfl) (vs := [.int .i64 (w64 ((↑p0.length : Int) - 5)), .int .i64 y72, .int .i64 0]) rfl rfl)⟩, ⟨rfl, trivial⟩⟩ rfl), φ73, _, (hS101.pick [] _ (by decide) rfl), rfl, rfl⟩
 ·have hm102 := hm7; rw [if_neg c15] at hm102; replace c15 := Hid.mk c15
  refine CK.condT (congrArg (fun b => Value.bool (!b)) (Bool.eq_false_iff.2 c15.out)) ?_
  refine CK.seq ?_
  refine CK.reg (ks := []) (.fl 0 (.fx 1 (.fl 2 (.nil)) .stop)) rfl ?_
  refine OKS.r rfl rfl rfl rfl (fun _ => Runs.build (pv := []) (z := [.int .i64 0, .int .i64 0, .int .i64 0]) (cs := [.int .i64 0, .int .i64 0, .int .i64 0]) rfl mapnil2 Tryz.zeroValue34 places34 rfl rfl) ?_
  refine OKS.st (j := 0) (vs := [.int .i64 0, .int .i64 0, .int .i64 0]) rfl rfl rfl rfl hS14 rfl rfl rfl rfl Tryz.sizeOf34 (Nat.le_of_ble_eq_true rfl) rfl rfl rfl ?_
  intro W103 hS104
  have hS105 : St ⟨w, [], φ⟩ φ8 [.blk b2 34 [.int .i64 0, .int .i64 0, .int .i64 0]] W103 := hS104
  refine OKS.ra rfl rfl rfl rfl rfl rfl ?_
  refine OKS.e ?_
  refine thenQ_n ?_
  refine CK.ret ?_
  refine thenQ_r ?_
  cases hm102
  exact ⟨rfl, _, (resLn (rs := [.cell 2 34, .tmp 3]) (vs := [.agg #[.int .i64 0, .int .i64 0, .int .i64 0], .int .i64 2]) ⟨⟨_, rfl, (ldvarA Tryz.isAgg34 Tryz.sizeOf34 (hS105.blkAt (k := 0) rfl) (vs := [.int .i64 0, .int .i64 0, .int .i64 0]) rfl rfl)⟩, ⟨rfl, trivial⟩⟩ rfl), φ8, _, (hS105.pick [] _ (by decide) rfl), rfl, rfl⟩

set_option maxHeartbeats 4000000 in
theorem w_klisterref08_Shot (p0 : List Bool) (pA0 : Option Addr) (pc0 : Nat) (w : World) (φ : PHeap) (hS : St ⟨w, [], φ⟩ φ [] w) (ha0 : Sl φ 1 pA0 pc0 p0.length (List.flatMap encT p0)) {r : T_klisterref08_Shooting × Int} (hm : m_klisterref08_Shot p0 = some r) : Gv Tryz.prog 14 [.slice pA0 p0.length pc0] w (RetS w [] φ (fun φ_ L_ v => v = .tuple #[.agg #[.int .i64 r.1.Spares, .int .i64 r.1.Loops, .int .i64 r.1.Unused], .int .i64 r.2] ∧ L_ = [])) := by
 unfold m_klisterref08_Shot at hm
 refine Gv.of Tryz.func14 rfl Tryz.ntmps14 Tryz.results14 rfl ?_
 refine CK.seq ?_
 refine CK.reg (ks := []) (.fx 0 (.fl 1 (.nil)) .stop) rfl ?_
 refine OKS.alloc (cs := [.int .i64 0, .int .i64 0, .int .i64 0]) rfl rfl rfl rfl rfl Tryz.zeroValue37 rfl hS ?_
 intro W1 b2 hS3
 refine OKS.ra rfl rfl rfl rfl rfl rfl ?_
 refine OKS.e ?_
 refine thenQ_n ?_
 refine CK.seq ?_
 refine CK.seq ?_
 refine CK.reg (ks := []) (.fl 0 (.fl 1 (.fx 2 (.nil) .stop))) rfl ?_
 refine OKS.rm rfl rfl rfl rfl rfl rfl ?_
 refine OKS.r rfl rfl rfl rfl (fun _ => Runs.len rfl rfl Tryz.runUnderlying25) ?_
 have q := bnd hm
 obtain ⟨x5, h6, hm7⟩ := q
 refine OKS.callH 0 rfl rfl rfl rfl (Enters.mk rfl rfl Tryz.call59 (mapcons rfl (mapcons rfl (mapcons rfl mapnil))) rfl) hS3 (fun hs => w_klisterref08_off (↑p0.length : Int) 5 8 W1 φ hs h6) (.inr rfl) ?_
 rintro φ8 L9 v10 W11 le12 hS13 ⟨rfl, rfl⟩
 have hS14 : St ⟨w, [], φ⟩ φ8 [.blk b2 37 [.int .i64 0, .int .i64 0, .int .i64 0]] W11 := hS13
 refine OKS.e ?_
 refine thenQ_n ?_
 by_cases c15 : x5 = true
 ·have hm16 := hm7; rw [if_pos c15] at hm16; replace c15 := Hid.mk c15
  refine CK.condT (congrArg Value.bool c15.out) ?_
  refine CK.seq ?_
  refine CK.reg (ks := []) (.fl 0 (.fx 1 (.fl 2 (.nil)) .stop)) rfl ?_
  refine OKS.r rfl rfl rfl rfl (fun _ => Runs.build (pv := []) (z := [.int .i64 0, .int .i64 0, .int .i64 0]) (cs := [.int .i64 0, .int .i64 0, .int .i64 0]) rfl mapnil2 Tryz.zeroValue37 places37 rfl rfl) ?_
  refine OKS.st (j := 0) (vs := [.int .i64 0, .int .i64 0, .int .i64 0]) rfl rfl rfl rfl hS14 rfl rfl rfl rfl Tryz.sizeOf37 (Nat.le_of_ble_eq_true rfl) rfl rfl rfl ?_
  intro W17 hS18
  have hS19 : St ⟨w, [], φ⟩ φ8 [.blk b2 37 [.int .i64 0, .int .i64 0, .int .i64 0]] W17 := hS18
  refine OKS.ra rfl rfl rfl rfl rfl rfl ?_
  refine OKS.e ?_
  refine thenQ_n ?_
  refine CK.ret ?_
  refine thenQ_r ?_
  cases hm16
  exact ⟨rfl, _, (resLn (rs := [.cell 2 37, .tmp 3]) (vs := [.agg #[.int .i64 0, .int .i64 0, .int .i64 0], .int .i64 2]) ⟨⟨_, rfl, (ldvarA Tryz.isAgg37 Tryz.sizeOf37 (hS19.blkAt (k := 0) rfl) (vs := [.int .i64 0, .int .i64 0, .int .i64 0]) rfl rfl)⟩, ⟨rfl, trivial⟩⟩ rfl), φ8, _, (hS19.pick [] _ (by decide) rfl), rfl, rfl⟩
 ·have hm20 := hm7; rw [if_neg c15] at hm20; replace c15 := Hid.mk c15
  refine CK.condF (congrArg Value.bool (Bool.eq_false_iff.2 c15.out)) ?_
  refine CK.skip ?_
  refine thenQ_n ?_
  refine CK.seq ?_
  refine CK.reg (ks := []) (.fl 0 (.nil)) rfl ?_
  refine OKS.ra rfl rfl rfl rfl rfl rfl ?_
  refine OKS.e ?_
  refine thenQ_n ?_
  refine CK.seq ?_
  refine CK.seq ?_
  refine CK.reg (ks := []) (.fl 0 (.nil)) rfl ?_
  refine OKS.ra rfl rfl rfl rfl rfl rfl ?_
  refine OKS.e ?_
  refine thenQ_n ?_
  refine CK.block ?_
  have q := jn_some hm20
  obtain ⟨r28, hX29⟩ := q
  have q := forR_le hX29
  obtain ⟨hle30, hf31⟩ := q
  replace hle30 := Hid.mk hle30
  refine CK.forN (fun k27 x26 σ_ w_ => ∃ (φ_ : PHeap), σ_ 5 = .int .i64 (↑k27 : Int) ∧ σ_ 0 = .slice pA0 p0.length pc0 ∧ σ_ 2 = .pointer (some ⟨b2, 0, none⟩) ∧ σ_ 4 = .int .i64 x26 ∧ PHeap.Le φ8 φ_ ∧ St ⟨w, [], φ⟩ φ_ [.blk b2 37 [.int .i64 0, .int .i64 0, .int .i64 0]] w_) hf31 ?_ ?_ ?_
  ·exact ⟨φ8, rfl, rfl, rfl, rfl, (PHeap.Le.refl _), hS14⟩
  ·rintro k27 x26 xx34 σ32 W33 hk37 ⟨φ39, fi38, f42, f43, f44, le40, hS41⟩ hx35 hb36
   have c45 : Hid ((↑k27 : Int) < (↑p0.length : Int)) := Hid.mk (lp_lt0 hk37)
   replace hk37 := Hid.mk hk37
   have hi46 : Hid (w64 ((↑k27 : Int) + 1) = (↑(k27 + 1) : Int)) := Hid.mk (by have h1 := hle30.out; have h2 := c45.out; rw [w64_in] <;> omega)
   refine CK.seq ?_
   refine CK.seq ?_
   refine CK.reg (ks := []) (.fl 0 (.fl 1 (.fl 2 (.fl 3 (.nil))))) rfl ?_
   refine OKS.rm rfl rfl rfl rfl rfl fi38 ?_
   refine OKS.rm rfl rfl rfl rfl rfl f42 ?_
   refine OKS.r rfl rfl rfl rfl (fun _ => Runs.len rfl rfl Tryz.runUnderlying25) ?_
   refine OKS.r rfl rfl rfl rfl (fun _ => Runs.lss rfl rfl rfl) ?_
   refine OKS.e ?_
   refine thenQ_n ?_
   refine CK.condT (decT c45.out) ?_
   refine CK.skip ?_
   refine thenQ_n ?_
   refine CK.seq ?_
   refine CK.block ?_
   refine CK.seq ?_
   refine CK.seq ?_
   refine CK.reg (ks := []) (.fl 0 (.fl 1 (.nil))) rfl ?_
   refine OKS.rm rfl rfl rfl rfl rfl f44 ?_
   refine OKS.r rfl rfl rfl rfl (fun _ => Runs.eql rfl rfl rfl) ?_
   refine OKS.e ?_
   refine thenQ_n ?_
   by_cases c47 : x26 = 5
   ·have hm48 := hx35; rw [if_pos c47] at hm48; replace c47 := Hid.mk c47
    refine CK.condT (decT c47.out) ?_
    refine CK.seq ?_
    refine CK.reg (ks := []) (.fl 0 (.fx 1 (.fl 2 (.nil)) .stop)) rfl ?_
    refine OKS.r rfl rfl rfl rfl (fun _ => Runs.build (pv := []) (z := [.int .i64 0, .int .i64 0, .int .i64 0]) (cs := [.int .i64 0, .int .i64 0, .int .i64 0]) rfl mapnil2 Tryz.zeroValue37 places37 rfl rfl) ?_
    refine OKS.st (j := 0) (vs := [.int .i64 0, .int .i64 0, .int .i64 0]) rfl rfl rfl rfl hS41 rfl f43 rfl rfl Tryz.sizeOf37 (Nat.le_of_ble_eq_true rfl) rfl rfl rfl ?_
    intro W49 hS50
    have hS51 : St ⟨w, [], φ⟩ φ39 [.blk b2 37 [.int .i64 0, .int .i64 0, .int .i64 0]] W49 := hS50
    refine OKS.ra rfl rfl rfl rfl rfl rfl ?_
    refine OKS.e ?_
    refine thenQ_n ?_
    refine CK.ret ?_
    refine thenQ_r ?_
    refine blockQ_r ?_
    refine thenQ_r ?_
    have q := esc_spec hm48
    obtain ⟨v52, hm53, e54⟩ := q
    obtain rfl := jn_inr hm20 hX29 (hb36 v52 e54)
    refine thenQ_r ?_
    refine blockQ_r ?_
    refine thenQ_r ?_
    cases hm53
    exact ⟨rfl, _, (resLn (rs := [.cell 2 37, .tmp 3]) (vs := [.agg #[.int .i64 0, .int .i64 0, .int .i64 0], .int .i64 8]) ⟨⟨_, f43, (ldvarA Tryz.isAgg37 Tryz.sizeOf37 (hS51.blkAt (k := 0) rfl) (vs := [.int .i64 0, .int .i64 0, .int .i64 0]) rfl rfl)⟩, ⟨rfl, trivial⟩⟩ rfl), φ39, _, (hS51.pick [] _ (by decide) rfl), rfl, rfl⟩
   ·have hm55 := hx35; rw [if_neg c47] at hm55; replace c47 := Hid.mk c47
    refine CK.condF (decF c47.out) ?_
    refine CK.skip ?_
    refine thenQ_n ?_
    refine CK.seq ?_
    refine CK.reg (ks := []) (.fl 0 (.fl 1 (.fl 2 (.fl 3 (.nil))))) rfl ?_
    refine OKS.rm rfl rfl rfl rfl rfl f42 ?_
    refine OKS.rm rfl rfl rfl rfl rfl fi38 ?_
    have q := bnd hm55
    obtain ⟨x56, h57, hm58⟩ := q
    have h59 := ha0.le le12
    have h60 := h59.le le40
    have q := h60.el (fun _ => rfl) (idx_get h57)
    obtain ⟨b61, off62, hA63, hC64⟩ := q
    refine OKS.r rfl rfl rfl rfl (fun _ => Runs.iaN rfl rfl hA63 rfl Tryz.runUnderlying25 Tryz.sizeOf4 (idx_lt h57)) ?_
    refine OKS.m rfl rfl rfl rfl (hS41.ldC (f := 0) hC64 (v := .bool x56) rfl rfl Tryz.isAgg4 rfl) rfl ?_
    refine OKS.e ?_
    refine thenQ_n ?_
    by_cases c65 : x56 = true
    ·have hm66 := hm58; rw [if_pos c65] at hm66; replace c65 := Hid.mk c65
     refine CK.condT (congrArg Value.bool c65.out) ?_
     refine CK.reg (ks := []) (.fl 0 (.fl 1 (.fl 2 (.nil)))) rfl ?_
     refine OKS.rm rfl rfl rfl rfl rfl f44 ?_
     refine OKS.r rfl rfl rfl rfl (fun _ => Runs.addw rfl rfl rfl) ?_
     refine OKS.ra rfl rfl rfl rfl rfl rfl ?_
     refine OKS.e ?_
     refine blockQ_n ?_
     refine thenQ_n ?_
     refine CK.reg (ks := []) (.fl 0 (.fl 1 (.fl 2 (.nil)))) rfl ?_
     refine OKS.rm rfl rfl rfl rfl rfl fi38 ?_
     refine OKS.r rfl rfl rfl rfl (fun _ => Runs.to (Runs.addw rfl rfl rfl) (congrArg (Value.int .i64) hi46.out)) ?_
     refine OKS.ra rfl rfl rfl rfl rfl rfl ?_
     refine OKS.e ?_
     obtain rfl := Option.some.inj hm66
     exact thenQ_n ⟨rfl, _, rfl, ⟨φ39, rfl, f42, f43, rfl, le40, hS41⟩⟩
    ·have hm68 := hm58; rw [if_neg c65] at hm68; replace c65 := Hid.mk c65
     refine CK.condF (congrArg Value.bool (Bool.eq_false_iff.2 c65.out)) ?_
     refine CK.skip ?_
     refine blockQ_n ?_
     refine thenQ_n ?_
     refine CK.reg (ks := []) (.fl 0 (.fl 1 (.fl 2 (.nil)))) rfl ?_
     refine OKS.rm rfl rfl rfl rfl rfl fi38 ?_
     refine OKS.r rfl rfl rfl rfl (fun _ => Runs.to (Runs.addw rfl rfl rfl) (congrArg (Value.int .i64) hi46.out)) ?_
     refine OKS.ra rfl rfl rfl rfl rfl rfl ?_
     refine OKS.e ?_
     obtain rfl := Option.some.inj hm68
     exact thenQ_n ⟨rfl, _, rfl, ⟨φ39, rfl, f42, f43, f44, le40, hS41⟩⟩
  ·rintro y74 σ70 W71 ⟨φ75, fi73, f78, f79, f80, le76, hS77⟩ hb72
   have hm81 := jn_inl hm20 hX29 hb72
   have c82 : Hid (¬ ((↑(((↑p0.length : Int) : Int) - 0).toNat : Int) < (↑p0.length : Int))) := Hid.mk (lp_end0)
   refine CK.seq ?_
   refine CK.seq ?_
   refine CK.reg (ks := []) (.fl 0 (.fl 1 (.fl 2 (.fl 3 (.nil))))) rfl ?_
   refine OKS.rm rfl rfl rfl rfl rfl fi73 ?_
   refine OKS.rm rfl rfl rfl rfl rfl f78 ?_
   refine OKS.r rfl rfl rfl rfl (fun _ => Runs.len rfl rfl Tryz.runUnderlying25) ?_
   refine OKS.r rfl rfl rfl rfl (fun _ => Runs.lss rfl rfl rfl) ?_
   refine OKS.e ?_
   refine thenQ_n ?_
   refine CK.condF (decF c82.out) ?_
   refine CK.exit ?_
   refine thenQ_e ?_
   refine thenQ_e ?_
   refine blockQ_h ?_
   refine thenQ_n ?_
   refine CK.seq ?_
   refine CK.reg (ks := []) (.fl 0 (.nil)) rfl ?_
   refine OKS.ra rfl rfl rfl rfl rfl rfl ?_
   refine OKS.e ?_
   refine thenQ_n ?_
   refine CK.seq ?_
   refine CK.seq ?_
   refine CK.reg (ks := []) (.fl 0 (.fl 1 (.nil))) rfl ?_
   refine OKS.rm rfl rfl rfl rfl rfl f80 ?_
   refine OKS.r rfl rfl rfl rfl (fun _ => Runs.lss rfl rfl rfl) ?_
   refine OKS.e ?_
   refine thenQ_n ?_
   by_cases c83 : y74 < 5
   ·have hm84 := hm81; rw [if_pos c83] at hm84; replace c83 := Hid.mk c83
    refine CK.condT (decT c83.out) ?_
    refine CK.reg (ks := []) (.fl 0 (.fl 1 (.fl 2 (.fl 3 (.nil))))) rfl ?_
    refine OKS.rm rfl rfl rfl rfl rfl f78 ?_
    refine OKS.r rfl rfl rfl rfl (fun _ => Runs.len rfl rfl Tryz.runUnderlying25) ?_
    refine OKS.r rfl rfl rfl rfl (fun _ => Runs.subw rfl rfl rfl) ?_
    refine OKS.ra rfl rfl rfl rfl rfl rfl ?_
    refine OKS.e ?_
    refine thenQ_n ?_
    refine CK.seq ?_
    refine CK.reg (ks := []) (.fl 0 (.fl 1 (.fl 2 (.fl 3 (.fl 4 (.fl 5 (.fl 6 (.fx 7 (.fl 8 (.nil)) .stop)))))))) rfl ?_
    refine OKS.rm rfl rfl rfl rfl rfl f78 ?_
    refine OKS.r rfl rfl rfl rfl (fun _ => Runs.len rfl rfl Tryz.runUnderlying25) ?_
    refine OKS.r rfl rfl rfl rfl (fun _ => Runs.subw rfl rfl rfl) ?_
    refine OKS.rm rfl rfl rfl rfl rfl f80 ?_
    refine OKS.r rfl rfl rfl rfl (fun _ => Runs.subw rfl rfl rfl) ?_
    refine OKS.rm rfl rfl rfl rfl rfl rfl ?_
    refine OKS.r rfl rfl rfl rfl (fun _ => Runs.build (pv := [(0, .int .i64 (w64 ((↑p0.length : Int) - 5))), (1, .int .i64 (w64 (5 - y74))), (2, .int .i64 (w64 (8 - (↑p0.length : Int))))]) (z := [.int .i64 0, .int .i64 0, .int .i64 0]) (cs := [.int .i64 (w64 ((↑p0.length : Int) - 5)), .int .i64 (w64 (5 - y74)), .int .i64 (w64 (8 - (↑p0.length : Int)))]) rfl (mapcons2 rfl (mapcons2 rfl (mapcons2 rfl mapnil2))) Tryz.zeroValue37 places37 rfl rfl) ?_
    refine OKS.st (j := 0) (vs := [.int .i64 (w64 ((↑p0.length : Int) - 5)), .int .i64 (w64 (5 - y74)), .int .i64 (w64 (8 - (↑p0.length : Int)))]) rfl rfl rfl rfl hS77 rfl f79 rfl rfl Tryz.sizeOf37 (Nat.le_of_ble_eq_true rfl) rfl rfl rfl ?_
    intro W85 hS86
    have hS87 : St ⟨w, [], φ⟩ φ75 [.blk b2 37 [.int .i64 (w64 ((↑p0.length : Int) - 5)), .int .i64 (w64 (5 - y74)), .int .i64 (w64 (8 - (↑p0.length : Int)))]] W85 := hS86
    refine OKS.ra rfl rfl rfl rfl rfl rfl ?_
    refine OKS.e ?_
    refine thenQ_n ?_
    refine CK.ret ?_
    cases hm84
    exact ⟨rfl, _, (resLn (rs := [.cell 2 37, .tmp 3]) (vs := [.agg #[.int .i64 (w64 ((↑p0.length : Int) - 5)), .int .i64 (w64 (5 - y74)), .int .i64 (w64 (8 - (↑p0.length : Int)))], .int .i64 0]) ⟨⟨_, f79, (ldvarA Tryz.isAgg37 Tryz.sizeOf37 (hS87.blkAt (k := 0) rfl) (vs := [.int .i64 (w64 ((↑p0.length : Int) - 5)), .int .i64 (w64 (5 - y74)), .int .i64 (w64 (8 - (↑p0.length : Int)))]) rfl rfl)⟩, ⟨rfl, trivial⟩⟩ rfl), φ75, _, (hS87.pick [] _ (by decide) rfl), rfl, rfl⟩
   ·have hm88 := hm81; rw [if_neg c83] at hm88; replace c83 := Hid.mk c83
    refine CK.condF (decF c83.out) ?_
    refine CK.skip ?_
    refine thenQ_n ?_
    refine CK.seq ?_
    refine CK.reg (ks := []) (.fl 0 (.fl 1 (.fl 2 (.fl 3 (.fl 4 (.fl 5 (.fl 6 (.fx 7 (.fl 8 (.nil)) .stop)))))))) rfl ?_
    refine OKS.rm rfl rfl rfl rfl rfl f78 ?_
    refine OKS.r rfl rfl rfl rfl (fun _ => Runs.len rfl rfl Tryz.runUnderlying25) ?_
    refine OKS.r rfl rfl rfl rfl (fun _ => Runs.subw rfl rfl rfl) ?_
    refine OKS.rm rfl rfl rfl rfl rfl f80 ?_
    refine OKS.r rfl rfl rfl rfl (fun _ => Runs.subw rfl rfl rfl) ?_
    refine OKS.rm rfl rfl rfl rfl rfl rfl ?_
    refine OKS.r rfl rfl rfl rfl (fun _ => Runs.build (pv := [(0, .int .i64 (w64 ((↑p0.length : Int) - 5))), (1, .int .i64 (w64 (5 - y74))), (2, .int .i64 0)]) (z := [.int .i64 0, .int .i64 0, .int .i64 0]) (cs := [.int .i64 (w64 ((↑p0.length : Int) - 5)), .int .i64 (w64 (5 - y74)), .int .i64 0]) rfl (mapcons2 rfl (mapcons2 rfl (mapcons2 rfl mapnil2))) Tryz.zeroValue37 places37 rfl rfl) ?_
    refine OKS.st (j := 0) (vs := [.int .i64 (w64 ((↑p0.length : Int) - 5)), .int .i64 (w64 (5 - y74)), .int .i64 0]) rfl rfl rfl rfl hS77 rfl f79 rfl rfl Tryz.sizeOf37 (Nat.le_of_ble_eq_true rfl) rfl rfl rfl ?_
    intro W89 hS90
    have hS91 : St ⟨w, [], φ⟩ φ75 [.blk b2 37 [.int .i64 (w64 ((↑p0.length : Int) - 5)), .int .i64 (w64 (5 - y74)), .int .i64 0]] W89 := hS90
    refine OKS.ra rfl rfl rfl rfl rfl rfl ?_
    refine OKS.e ?_
    refine thenQ_n ?_
    refine CK.ret ?_
    cases hm88
    exact ⟨rfl, _, (resLn (rs := [.cell 2 37, .tmp 3]) (vs := [.agg #[.int .i64 (w64 ((↑p0.length : Int) - 5)), .int .i64 (w64 (5 - y74)), .int .i64 0], .int .i64 0]) ⟨⟨_, f79, (ldvarA Tryz.isAgg37 Tryz.sizeOf37 (hS91.blkAt (k := 0) rfl) (vs := [.int .i64 (w64 ((↑p0.length : Int) - 5)), .int .i64 (w64 (5 - y74)), .int .i64 0]) rfl rfl)⟩, ⟨rfl, trivial⟩⟩ rfl), φ75, _, (hS91.pick [] _ (by decide) rfl), rfl, rfl⟩

set_option maxHeartbeats 4000000 in
theorem w_klisterkit_Equal_int (p0 : List Int) (pA0 : Option Addr) (pc0 : Nat) (p1 : List Int) (pA1 : Option Addr) (pc1 : Nat) (w : World) (φ : PHeap) (hS : St ⟨w, [], φ⟩ φ [] w) (ha0 : Sl φ 1 pA0 pc0 p0.length (List.flatMap encI p0)) (ha1 : Sl φ 1 pA1 pc1 p1.length (List.flatMap encI p1)) {r : Bool} (hm : m_klisterkit_Equal_int p0 p1 = some r) : Gv Tryz.prog 30 [.slice pA0 p0.length pc0, .slice pA1 p1.length pc1] w (RetS w [] φ (fun φ_ L_ v => v = .bool r ∧ L_ = [])) := by
 unfold m_klisterkit_Equal_int at hm
 refine Gv.of Tryz.func30 rfl Tryz.ntmps30 Tryz.results30 rfl ?_
 refine CK.seq ?_
 refine CK.reg (ks := []) (.fl 0 (.nil)) rfl ?_
 refine OKS.ra rfl rfl rfl rfl rfl rfl ?_
 refine OKS.e ?_
 refine thenQ_n ?_
 refine CK.seq ?_
 refine CK.seq ?_
 refine CK.reg (ks := []) (.fl 0 (.fl 1 (.fl 2 (.fl 3 (.fl 4 (.nil)))))) rfl ?_
 refine OKS.rm rfl rfl rfl rfl rfl rfl ?_
 refine OKS.r rfl rfl rfl rfl (fun _ => Runs.len rfl rfl Tryz.runUnderlying22) ?_
 refine OKS.rm rfl rfl rfl rfl rfl rfl ?_
 refine OKS.r rfl rfl rfl rfl (fun _ => Runs.len rfl rfl Tryz.runUnderlying22) ?_
 refine OKS.r rfl rfl rfl rfl (fun _ => Runs.neq rfl rfl rfl) ?_
 refine OKS.e ?_
 refine thenQ_n ?_
 by_cases c1 : (↑p0.length : Int) = (↑p1.length : Int)
 ·have hm2 := hm; rw [if_pos c1] at hm2; replace c1 := Hid.mk c1
  refine CK.condF (decF (fun h => h c1.out)) ?_
  refine CK.skip ?_
  refine thenQ_n ?_
  refine CK.seq ?_
  refine CK.seq ?_
  refine CK.reg (ks := []) (.fl 0 (.fl 1 (.fl 2 (.nil)))) rfl ?_
  refine OKS.rm rfl rfl rfl rfl rfl rfl ?_
  refine OKS.r rfl rfl rfl rfl (fun _ => Runs.len rfl rfl Tryz.runUnderlying22) ?_
  refine OKS.rm rfl rfl rfl rfl rfl rfl ?_
  refine OKS.e ?_
  refine thenQ_n ?_
  refine CK.block ?_
  have q := jn_some hm2
  obtain ⟨r5, hX6⟩ := q
  have q := forR_le hX6
  obtain ⟨hle7, hf8⟩ := q
  replace hle7 := Hid.mk hle7
  refine CK.forN (fun k4 _ σ_ w_ => ∃ (φ_ : PHeap), σ_ 13 = .int .i64 (↑k4 : Int) ∧ σ_ 0 = .slice pA0 p0.length pc0 ∧ σ_ 1 = .slice pA1 p1.length pc1 ∧ σ_ 12 = .int .i64 (↑p0.length : Int) ∧ PHeap.Le φ φ_ ∧ St ⟨w, [], φ⟩ φ_ [] w_) hf8 ?_ ?_ ?_
  ·exact ⟨φ, rfl, rfl, rfl, rfl, (PHeap.Le.refl _), hS⟩
  ·rintro k4 ⟨⟩ xx11 σ9 W10 hk14 ⟨φ16, fi15, f19, f20, f21, le17, hS18⟩ hx12 hb13
   try dsimp only at hx12
   have c22 : Hid ((↑k4 : Int) < (↑p0.length : Int)) := Hid.mk (lp_lt0 hk14)
   replace hk14 := Hid.mk hk14
   have hi23 : Hid (w64 ((↑k4 : Int) + 1) = (↑(k4 + 1) : Int)) := Hid.mk (by have h1 := hle7.out; have h2 := c22.out; rw [w64_in] <;> omega)
   refine CK.seq ?_
   refine CK.reg (ks := []) (.fl 0 (.nil)) rfl ?_
   refine OKS.r rfl rfl rfl rfl (fun _ => Runs.lss rfl fi15 f21) ?_
   refine OKS.e ?_
   refine thenQ_n ?_
   refine CK.seq ?_
   refine CK.condT (decT c22.out) ?_
   refine CK.skip ?_
   refine thenQ_n ?_
   refine CK.seq ?_
   refine CK.block ?_
   refine CK.seq ?_
   refine CK.reg (ks := []) (.fl 0 (.fl 1 (.nil))) rfl ?_
   refine OKS.rm rfl rfl rfl rfl rfl fi15 ?_
   refine OKS.ra rfl rfl rfl rfl rfl rfl ?_
   refine OKS.e ?_
   refine thenQ_n ?_
   refine CK.seq ?_
   refine CK.anyOrd Tryz.mixed [3, 3, 3, 1, 3, 3, 3, 1, 3] (.fl 0 (.fl 1 (.fl 2 (.fl 3 (.fl 4 (.fl 5 (.fl 6 (.fl 7 (.fl 8 (.nil)))))))))) (by kernel_rfl) ?_
   have hS24 := hS18.drew
   generalize hw_W25 : ({ W10 with drawn := W10.drawn + 1 } : World) = W25 at hS24 ⊢
   refine OKS.rm rfl rfl rfl rfl rfl f19 ?_
   refine OKS.rm rfl rfl rfl rfl rfl rfl ?_
   have q := bnd hx12
   obtain ⟨x26, h27, hm28⟩ := q
   have h29 := ha0.le le17
   have q := h29.el (fun _ => rfl) (idx_get h27)
   obtain ⟨b30, off31, hA32, hC33⟩ := q
   refine OKS.r rfl rfl rfl rfl (fun _ => Runs.iaN rfl rfl hA32 rfl Tryz.runUnderlying22 Tryz.sizeOf3 (idx_lt h27)) ?_
   refine OKS.m rfl rfl rfl rfl (hS24.ldC (f := 0) hC33 (v := .int .i64 x26) rfl rfl Tryz.isAgg3 rfl) rfl ?_
   refine OKS.rm rfl rfl rfl rfl rfl f20 ?_
   refine OKS.rm rfl rfl rfl rfl rfl rfl ?_
   have q := bnd hm28
   obtain ⟨x34, h35, hm36⟩ := q
   have h37 := ha1.le le17
   have q := h37.el (fun _ => rfl) (idx_get h35)
   obtain ⟨b38, off39, hA40, hC41⟩ := q
   refine OKS.r rfl rfl rfl rfl (fun _ => Runs.iaN rfl rfl hA40 rfl Tryz.runUnderlying22 Tryz.sizeOf3 (idx_lt h35)) ?_
   refine OKS.m rfl rfl rfl rfl (hS24.ldC (f := 0) hC41 (v := .int .i64 x34) rfl rfl Tryz.isAgg3 rfl) rfl ?_
   refine OKS.r rfl rfl rfl rfl (fun _ => Runs.neq rfl rfl rfl) ?_
   refine OKS.e ?_
   refine thenQ_n ?_
   by_cases c42 : x26 = x34
   ·have hm43 := hm36; rw [if_pos c42] at hm43; replace c42 := Hid.mk c42
    refine CK.condF (decF (fun h => h c42.out)) ?_
    refine CK.skip ?_
    refine blockQ_n ?_
    refine thenQ_n ?_
    refine CK.reg (ks := []) (.fl 0 (.fl 1 (.nil))) rfl ?_
    refine OKS.r rfl rfl rfl rfl (fun _ => Runs.to (Runs.addw rfl fi15 rfl) (congrArg (Value.int .i64) hi23.out)) ?_
    refine OKS.rm rfl rfl rfl rfl rfl rfl ?_
    refine OKS.e ?_
    obtain rfl := Option.some.inj hm43
    exact thenQ_n ⟨rfl, _, rfl, ⟨φ16, rfl, f19, f20, f21, le17, hS24⟩⟩
   ·have hm44 := hm36; rw [if_neg c42] at hm44; replace c42 := Hid.mk c42
    refine CK.condT (decT c42.out) ?_
    refine CK.seq ?_
    refine CK.reg (ks := []) (.fl 0 (.nil)) rfl ?_
    refine OKS.ra rfl rfl rfl rfl rfl rfl ?_
    refine OKS.e ?_
    refine thenQ_n ?_
    refine CK.ret ?_
    refine blockQ_r ?_
    refine thenQ_r ?_
    have q := esc_spec hm44
    obtain ⟨v45, hm46, e47⟩ := q
    obtain rfl := jn_inr hm2 hX6 (hb13 v45 e47)
    refine thenQ_r ?_
    refine blockQ_r ?_
    refine thenQ_r ?_
    cases hm46
    exact ⟨rfl, _, (res1 rfl), φ16, _, hS24, rfl, rfl⟩
  ·rintro ⟨⟩ σ48 W49 ⟨φ52, fi51, f55, f56, f57, le53, hS54⟩ hb50
   have hm58 := jn_inl hm2 hX6 hb50
   try dsimp only at hm58
   have c59 : Hid (¬ ((↑(((↑p0.length : Int) : Int) - 0).toNat : Int) < (↑p0.length : Int))) := Hid.mk (lp_end0)
   refine CK.seq ?_
   refine CK.reg (ks := []) (.fl 0 (.nil)) rfl ?_
   refine OKS.r rfl rfl rfl rfl (fun _ => Runs.lss rfl fi51 f57) ?_
   refine OKS.e ?_
   refine thenQ_n ?_
   refine CK.seq ?_
   refine CK.condF (decF c59.out) ?_
   refine CK.exit ?_
   refine thenQ_e ?_
   refine thenQ_e ?_
   refine blockQ_h ?_
   refine thenQ_n ?_
   refine CK.seq ?_
   refine CK.reg (ks := []) (.fl 0 (.nil)) rfl ?_
   refine OKS.ra rfl rfl rfl rfl rfl rfl ?_
   refine OKS.e ?_
   refine thenQ_n ?_
   refine CK.ret ?_
   cases hm58
   exact ⟨rfl, _, (res1 rfl), φ52, _, hS54, rfl, rfl⟩
 ·have hm60 := hm; rw [if_neg c1] at hm60; replace c1 := Hid.mk c1
  refine CK.condT (decT c1.out) ?_
  refine CK.seq ?_
  refine CK.reg (ks := []) (.fl 0 (.nil)) rfl ?_
  refine OKS.ra rfl rfl rfl rfl rfl rfl ?_
  refine OKS.e ?_
  refine thenQ_n ?_
  refine CK.ret ?_
  refine thenQ_r ?_
  cases hm60
  exact ⟨rfl, _, (res1 rfl), φ, _, hS, rfl, rfl⟩

set_option maxHeartbeats 4000000 in
theorem w_klisterlaw08_sameRules (p0 : T_relay_Rules) (pA0_0 : Option Addr) (pc0_0 : Nat) (p1 : T_relay_Rules) (pA1_0 : Option Addr) (pc1_0 : Nat) (w : World) (φ : PHeap) (hS : St ⟨w, [], φ⟩ φ [] w) (ha0 : Sl φ 1 pA0_0 pc0_0 p0.Classes.length (List.flatMap encI p0.Classes)) (ha1 : Sl φ 1 pA1_0 pc1_0 p1.Classes.length (List.flatMap encI p1.Classes)) {r : Bool} (hm : m_klisterlaw08_sameRules p0 p1 = some r) : Gv Tryz.prog 15 [.agg #[.slice pA0_0 p0.Classes.length pc0_0, .int .i64 p0.Each, .int .i64 p0.Laps, .int .i64 p0.Spare, .int .i64 p0.Loop, .int .i64 p0.Unused], .agg #[.slice pA1_0 p1.Classes.length pc1_0, .int .i64 p1.Each, .int .i64 p1.Laps, .int .i64 p1.Spare, .int .i64 p1.Loop, .int .i64 p1.Unused]] w (RetS w [] φ (fun φ_ L_ v => v = .bool r ∧ L_ = [])) := by
 unfold m_klisterlaw08_sameRules at hm
 refine Gv.of Tryz.func15 rfl Tryz.ntmps15 Tryz.results15 rfl ?_
 refine CK.seq ?_
 refine CK.reg (ks := []) (.fx 0 (.fx 1 (.fl 2 (.nil)) .stop) .stop) rfl ?_
 refine OKS.box (cs := [.slice pA0_0 p0.Classes.length pc0_0, .int .i64 p0.Each, .int .i64 p0.Laps, .int .i64 p0.Spare, .int .i64 p0.Loop, .int .i64 p0.Unused]) rfl rfl rfl rfl rfl rfl (by rfl) hS ?_
 intro W1 b2 hS3
 refine OKS.box (cs := [.slice pA1_0 p1.Classes.length pc1_0, .int .i64 p1.Each, .int .i64 p1.Laps, .int .i64 p1.Spare, .int .i64 p1.Loop, .int .i64 p1.Unused]) rfl rfl rfl rfl rfl rfl (by rfl) hS3 ?_
 intro W5 b6 hS7
 refine OKS.ra rfl rfl rfl rfl rfl rfl ?_
 refine OKS.e ?_
 refine thenQ_n ?_
 refine CK.seq ?_
 refine CK.reg (ks := []) (.fl 0 (.fl 1 (.fl 2 (.fl 3 (.fx 4 (.fl 5 (.fl 6 (.fl 7 (.fl 8 (.fl 9 (.fl 10 (.fl 11 (.fl 12 (.fl 13 (.fl 14 (.fl 15 (.fl 16 (.fl 17 (.fl 18 (.fl 19 (.fl 20 (.fl 21 (.fl 22 (.fl 23 (.fl 24 (.fl 25 (.fl 26 (.fl 27 (.fl 28 (.fl 29 (.fl 30 (.fl 31 (.fl 32 (.fl 33 (.fl 34 (.fl 35 (.fl 36 (.fl 37 (.fl 38 (.fl 39 (.fl 40 (.nil))))))))))))))))))))))))))))))))))))) .stop))))) rfl ?_
 refine OKS.r rfl rfl rfl rfl (fun _ => Runs.fa rfl rfl Tryz.runUnderlying24 rfl Tryz.sizeOf22) ?_
 refine OKS.m rfl rfl rfl rfl (hS7.ldB (j := 1) rfl rfl rfl Tryz.isAgg22 (v := .slice pA0_0 p0.Classes.length pc0_0) rfl) rfl ?_
 refine OKS.r rfl rfl rfl rfl (fun _ => Runs.fa rfl rfl Tryz.runUnderlying24 rfl Tryz.sizeOf22) ?_
 refine OKS.m rfl rfl rfl rfl (hS7.ldB (j := 0) rfl rfl rfl Tryz.isAgg22 (v := .slice pA1_0 p1.Classes.length pc1_0) rfl) rfl ?_
 have q := bnd hm
 obtain ⟨x9, h10, hm11⟩ := q
 refine OKS.callH 0 rfl rfl rfl rfl (Enters.mk rfl rfl Tryz.call30 (mapcons rfl (mapcons rfl mapnil)) rfl) hS7 (fun hs => w_klisterkit_Equal_int p0.Classes pA0_0 pc0_0 p1.Classes pA1_0 pc1_0 W5 φ hs ha0 ha1 h10) (.inr rfl) ?_
 rintro φ12 L13 v14 W15 le16 hS17 ⟨rfl, rfl⟩
 have hS18 : St ⟨w, [], φ⟩ φ12 [.blk b6 24 [.slice pA1_0 p1.Classes.length pc1_0, .int .i64 p1.Each, .int .i64 p1.Laps, .int .i64 p1.Spare, .int .i64 p1.Loop, .int .i64 p1.Unused], .blk b2 24 [.slice pA0_0 p0.Classes.length pc0_0, .int .i64 p0.Each, .int .i64 p0.Laps, .int .i64 p0.Spare, .int .i64 p0.Loop, .int .i64 p0.Unused]] W15 := hS17
 refine OKS.rm rfl rfl rfl rfl rfl rfl ?_
 by_cases c19 : x9 = true
 ·have hm20 := hm11; rw [if_pos c19] at hm20; replace c19 := Hid.mk c19
  refine OKS.r rfl rfl rfl (wantedY rfl rfl (congrArg Value.bool c19.out)) (fun _ => Runs.fa rfl rfl Tryz.runUnderlying24 rfl Tryz.sizeOf3) ?_
  refine OKS.m rfl rfl rfl (wantedY rfl rfl (congrArg Value.bool c19.out)) (hS18.ldB (j := 1) rfl rfl rfl Tryz.isAgg3 (v := .int .i64 p0.Each) rfl) rfl ?_
  refine OKS.r rfl rfl rfl (wantedY rfl rfl (congrArg Value.bool c19.out)) (fun _ => Runs.fa rfl rfl Tryz.runUnderlying24 rfl Tryz.sizeOf3) ?_
  refine OKS.m rfl rfl rfl (wantedY rfl rfl (congrArg Value.bool c19.out)) (hS18.ldB (j := 0) rfl rfl rfl Tryz.isAgg3 (v := .int .i64 p1.Each) rfl) rfl ?_
  refine OKS.r rfl rfl rfl (wantedY rfl rfl (congrArg Value.bool c19.out)) (fun _ => Runs.eql rfl rfl rfl) ?_
  refine OKS.r rfl rfl rfl rfl (fun _ => Runs.pickT rfl (congrArg Value.bool c19.out) rfl) ?_
  refine OKS.rm rfl rfl rfl rfl rfl rfl ?_
  by_cases c21 : p0.Each = p1.Each
  ·have hm22 := hm20; rw [if_pos c21] at hm22; replace c21 := Hid.mk c21
   refine OKS.r rfl rfl rfl (wantedY rfl rfl (decT c21.out)) (fun _ => Runs.fa rfl rfl Tryz.runUnderlying24 rfl Tryz.sizeOf3) ?_
   refine OKS.m rfl rfl rfl (wantedY rfl rfl (decT c21.out)) (hS18.ldB (j := 1) rfl rfl rfl Tryz.isAgg3 (v := .int .i64 p0.Laps) rfl) rfl ?_
   refine OKS.r rfl rfl rfl (wantedY rfl rfl (decT c21.out)) (fun _ => Runs.fa rfl rfl Tryz.runUnderlying24 rfl Tryz.sizeOf3) ?_
   refine OKS.m rfl rfl rfl (wantedY rfl rfl (decT c21.out)) (hS18.ldB (j := 0) rfl rfl rfl Tryz.isAgg3 (v := .int .i64 p1.Laps) rfl) rfl ?_
   refine OKS.r rfl rfl rfl (wantedY rfl rfl (decT c21.out)) (fun _ => Runs.eql rfl rfl rfl) ?_
   refine OKS.r rfl rfl rfl rfl (fun _ => Runs.pickT rfl (decT c21.out) rfl) ?_
   refine OKS.rm rfl rfl rfl rfl rfl rfl ?_
   by_cases c23 : p0.Laps = p1.Laps
   ·have hm24 := hm22; rw [if_pos c23] at hm24; replace c23 := Hid.mk c23
    refine OKS.r rfl rfl rfl (wantedY rfl rfl (decT c23.out)) (fun _ => Runs.fa rfl rfl Tryz.runUnderlying24 rfl Tryz.sizeOf3) ?_
    refine OKS.m rfl rfl rfl (wantedY rfl rfl (decT c23.out)) (hS18.ldB (j := 1) rfl rfl rfl Tryz.isAgg3 (v := .int .i64 p0.Spare) rfl) rfl ?_
    refine OKS.r rfl rfl rfl (wantedY rfl rfl (decT c23.out)) (fun _ => Runs.fa rfl rfl Tryz.runUnderlying24 rfl Tryz.sizeOf3) ?_
    refine OKS.m rfl rfl rfl (wantedY rfl rfl (decT c23.out)) (hS18.ldB (j := 0) rfl rfl rfl Tryz.isAgg3 (v := .int .i64 p1.Spare) rfl) rfl ?_
    refine OKS.r rfl rfl rfl (wantedY rfl rfl (decT c23.out)) (fun _ => Runs.eql rfl rfl rfl) ?_
    refine OKS.r rfl rfl rfl rfl (fun _ => Runs.pickT rfl (decT c23.out) rfl) ?_
    refine OKS.rm rfl rfl rfl rfl rfl rfl ?_
    by_cases c25 : p0.Spare = p1.Spare
    ·have hm26 := hm24; rw [if_pos c25] at hm26; replace c25 := Hid.mk c25
     refine OKS.r rfl rfl rfl (wantedY rfl rfl (decT c25.out)) (fun _ => Runs.fa rfl rfl Tryz.runUnderlying24 rfl Tryz.sizeOf3) ?_
     refine OKS.m rfl rfl rfl (wantedY rfl rfl (decT c25.out)) (hS18.ldB (j := 1) rfl rfl rfl Tryz.isAgg3 (v := .int .i64 p0.Loop) rfl) rfl ?_
     refine OKS.r rfl rfl rfl (wantedY rfl rfl (decT c25.out)) (fun _ => Runs.fa rfl rfl Tryz.runUnderlying24 rfl Tryz.sizeOf3) ?_
     refine OKS.m rfl rfl rfl (wantedY rfl rfl (decT c25.out)) (hS18.ldB (j := 0) rfl rfl rfl Tryz.isAgg3 (v := .int .i64 p1.Loop) rfl) rfl ?_
     refine OKS.r rfl rfl rfl (wantedY rfl rfl (decT c25.out)) (fun _ => Runs.eql rfl rfl rfl) ?_
     refine OKS.r rfl rfl rfl rfl (fun _ => Runs.pickT rfl (decT c25.out) rfl) ?_
     refine OKS.rm rfl rfl rfl rfl rfl rfl ?_
     by_cases c27 : p0.Loop = p1.Loop
     ·have hm28 := hm26; rw [if_pos c27] at hm28; replace c27 := Hid.mk c27
      refine OKS.r rfl rfl rfl (wantedY rfl rfl (decT c27.out)) (fun _ => Runs.fa rfl rfl Tryz.runUnderlying24 rfl Tryz.sizeOf3) ?_
      refine OKS.m rfl rfl rfl (wantedY rfl rfl (decT c27.out)) (hS18.ldB (j := 1) rfl rfl rfl Tryz.isAgg3 (v := .int .i64 p0.Unused) rfl) rfl ?_
      refine OKS.r rfl rfl rfl (wantedY rfl rfl (decT c27.out)) (fun _ => Runs.fa rfl rfl Tryz.runUnderlying24 rfl Tryz.sizeOf3) ?_
      refine OKS.m rfl rfl rfl (wantedY rfl rfl (decT c27.out)) (hS18.ldB (j := 0) rfl rfl rfl Tryz.isAgg3 (v := .int .i64 p1.Unused) rfl) rfl ?_
      refine OKS.r rfl rfl rfl (wantedY rfl rfl (decT c27.out)) (fun _ => Runs.eql rfl rfl rfl) ?_
      refine OKS.r rfl rfl rfl rfl (fun _ => Runs.pickT rfl (decT c27.out) rfl) ?_
      refine OKS.ra rfl rfl rfl rfl rfl rfl ?_
      refine OKS.e ?_
      refine thenQ_n ?_
      refine CK.ret ?_
      cases hm28
      exact ⟨rfl, _, (res1 rfl), φ12, _, (hS18.pick [] _ (by decide) rfl), rfl, rfl⟩
     ·have hm29 := hm26; rw [if_neg c27] at hm29; replace c27 := Hid.mk c27
      refine OKS.p rfl rfl rfl (wantedN rfl rfl (decF c27.out) rfl) ?_
      refine OKS.p rfl rfl rfl (wantedN rfl rfl (decF c27.out) rfl) ?_
      refine OKS.p rfl rfl rfl (wantedN rfl rfl (decF c27.out) rfl) ?_
      refine OKS.p rfl rfl rfl (wantedN rfl rfl (decF c27.out) rfl) ?_
      refine OKS.p rfl rfl rfl (wantedN rfl rfl (decF c27.out) rfl) ?_
      refine OKS.r rfl rfl rfl rfl (fun _ => Runs.pickF rfl (decF c27.out) rfl) ?_
      refine OKS.ra rfl rfl rfl rfl rfl rfl ?_
      refine OKS.e ?_
      refine thenQ_n ?_
      refine CK.ret ?_
      cases hm29
      exact ⟨rfl, _, (res1 rfl), φ12, _, (hS18.pick [] _ (by decide) rfl), rfl, rfl⟩
    ·have hm30 := hm24; rw [if_neg c25] at hm30; replace c25 := Hid.mk c25
     refine OKS.p rfl rfl rfl (wantedN rfl rfl (decF c25.out) rfl) ?_
     refine OKS.p rfl rfl rfl (wantedN rfl rfl (decF c25.out) rfl) ?_
     refine OKS.p rfl rfl rfl (wantedN rfl rfl (decF c25.out) rfl) ?_
     refine OKS.p rfl rfl rfl (wantedN rfl rfl (decF c25.out) rfl) ?_
     refine OKS.p rfl rfl rfl (wantedN rfl rfl (decF c25.out) rfl) ?_
     refine OKS.r rfl rfl rfl rfl (fun _ => Runs.pickF rfl (decF c25.out) rfl) ?_
     refine OKS.rm rfl rfl rfl rfl rfl rfl ?_
     refine OKS.p rfl rfl rfl (wantedN rfl rfl rfl rfl) ?_
     refine OKS.p rfl rfl rfl (wantedN rfl rfl rfl rfl) ?_
     refine OKS.p rfl rfl rfl (wantedN rfl rfl rfl rfl) ?_
     refine OKS.p rfl rfl rfl (wantedN rfl rfl rfl rfl) ?_
     refine OKS.p rfl rfl rfl (wantedN rfl rfl rfl rfl) ?_
     refine OKS.r rfl rfl rfl rfl (fun _ => Runs.pickF rfl rfl rfl) ?_
     refine OKS.ra rfl rfl rfl rfl rfl rfl ?_
     refine OKS.e ?_
     refine thenQ_n ?_
     refine CK.ret ?_
     cases hm30
     exact ⟨rfl, _, (res1 rfl), φ12, _, (hS18.pick [] _ (by decide) rfl), rfl, rfl⟩
   ·have hm31 := hm22; rw [if_neg c23] at hm31; replace c23 := Hid.mk c23
    refine OKS.p rfl rfl rfl (wantedN rfl rfl (decF c23.out) rfl) ?_
    refine OKS.p rfl rfl rfl (wantedN rfl rfl (decF c23.out) rfl) ?_
    refine OKS.p rfl rfl rfl (wantedN rfl rfl (decF c23.out) rfl) ?_
    refine OKS.p rfl rfl rfl (wantedN rfl rfl (decF c23.out) rfl) ?_
    refine OKS.p rfl rfl rfl (wantedN rfl rfl (decF c23.out) rfl) ?_
    refine OKS.r rfl rfl rfl rfl (fun _ => Runs.pickF rfl (decF c23.out) rfl) ?_
    refine OKS.rm rfl rfl rfl rfl rfl rfl ?_
    refine OKS.p rfl rfl rfl (wantedN rfl rfl rfl rfl) ?_
    refine OKS.p rfl rfl rfl (wantedN rfl rfl rfl rfl) ?_
    refine OKS.p rfl rfl rfl (wantedN rfl rfl rfl rfl) ?_
    refine OKS.p rfl rfl rfl (wantedN rfl rfl rfl rfl) ?_
    refine OKS.p rfl rfl rfl (wantedN rfl rfl rfl rfl) ?_
    refine OKS.r rfl rfl rfl rfl (fun _ => Runs.pickF rfl rfl rfl) ?_
    refine OKS.rm rfl rfl rfl rfl rfl rfl ?_
    refine OKS.p rfl rfl rfl (wantedN rfl rfl rfl rfl) ?_
    refine OKS.p rfl rfl rfl (wantedN rfl rfl rfl rfl) ?_
    refine OKS.p rfl rfl rfl (wantedN rfl rfl rfl rfl) ?_
    refine OKS.p rfl rfl rfl (wantedN rfl rfl rfl rfl) ?_
    refine OKS.p rfl rfl rfl (wantedN rfl rfl rfl rfl) ?_
    refine OKS.r rfl rfl rfl rfl (fun _ => Runs.pickF rfl rfl rfl) ?_
    refine OKS.ra rfl rfl rfl rfl rfl rfl ?_
    refine OKS.e ?_
    refine thenQ_n ?_
    refine CK.ret ?_
    cases hm31
    exact ⟨rfl, _, (res1 rfl), φ12, _, (hS18.pick [] _ (by decide) rfl), rfl, rfl⟩
  ·have hm32 := hm20; rw [if_neg c21] at hm32; replace c21 := Hid.mk c21
   refine OKS.p rfl rfl rfl (wantedN rfl rfl (decF c21.out) rfl) ?_
   refine OKS.p rfl rfl rfl (wantedN rfl rfl (decF c21.out) rfl) ?_
   refine OKS.p rfl rfl rfl (wantedN rfl rfl (decF c21.out) rfl) ?_
   refine OKS.p rfl rfl rfl (wantedN rfl rfl (decF c21.out) rfl) ?_
   refine OKS.p rfl rfl rfl (wantedN rfl rfl (decF c21.out) rfl) ?_
   refine OKS.r rfl rfl rfl rfl (fun _ => Runs.pickF rfl (decF c21.out) rfl) ?_
   refine OKS.rm rfl rfl rfl rfl rfl rfl ?_
   refine OKS.p rfl rfl rfl (wantedN rfl rfl rfl rfl) ?_
   refine OKS.p rfl rfl rfl (wantedN rfl rfl rfl rfl) ?_
   refine OKS.p rfl rfl rfl (wantedN rfl rfl rfl rfl) ?_
   refine OKS.p rfl rfl rfl (wantedN rfl rfl rfl rfl) ?_
   refine OKS.p rfl rfl rfl (wantedN rfl rfl rfl rfl) ?_
   refine OKS.r rfl rfl rfl rfl (fun _ => Runs.pickF rfl rfl rfl) ?_
   refine OKS.rm rfl rfl rfl rfl rfl rfl ?_
   refine OKS.p rfl rfl rfl (wantedN rfl rfl rfl rfl) ?_
   refine OKS.p rfl rfl rfl (wantedN rfl rfl rfl rfl) ?_
   refine OKS.p rfl rfl rfl (wantedN rfl rfl rfl rfl) ?_
   refine OKS.p rfl rfl rfl (wantedN rfl rfl rfl rfl) ?_
   refine OKS.p rfl rfl rfl (wantedN rfl rfl rfl rfl) ?_
   refine OKS.r rfl rfl rfl rfl (fun _ => Runs.pickF rfl rfl rfl) ?_
   refine OKS.rm rfl rfl rfl rfl rfl rfl ?_
   refine OKS.p rfl rfl rfl (wantedN rfl rfl rfl rfl) ?_
   refine OKS.p rfl rfl rfl (wantedN rfl rfl rfl rfl) ?_
   refine OKS.p rfl rfl rfl (wantedN rfl rfl rfl rfl) ?_
   refine OKS.p rfl rfl rfl (wantedN rfl rfl rfl rfl) ?_
   refine OKS.p rfl rfl rfl (wantedN rfl rfl rfl rfl) ?_
   refine OKS.r rfl rfl rfl rfl (fun _ => Runs.pickF rfl rfl rfl) ?_
   refine OKS.ra rfl rfl rfl rfl rfl rfl ?_
   refine OKS.e ?_
   refine thenQ_n ?_
   refine CK.ret ?_
   cases hm32
   exact ⟨rfl, _, (res1 rfl), φ12, _, (hS18.pick [] _ (by decide) rfl), rfl, rfl⟩
 ·have hm33 := hm11; rw [if_neg c19] at hm33; replace c19 := Hid.mk c19
  refine OKS.p rfl rfl rfl (wantedN rfl rfl (congrArg Value.bool (Bool.eq_false_iff.2 c19.out)) rfl) ?_
  refine OKS.p rfl rfl rfl (wantedN rfl rfl (congrArg Value.bool (Bool.eq_false_iff.2 c19.out)) rfl) ?_
  refine OKS.p rfl rfl rfl (wantedN rfl rfl (congrArg Value.bool (Bool.eq_false_iff.2 c19.out)) rfl) ?_
  refine OKS.p rfl rfl rfl (wantedN rfl rfl (congrArg Value.bool (Bool.eq_false_iff.2 c19.out)) rfl) ?_
  refine OKS.p rfl rfl rfl (wantedN rfl rfl (congrArg Value.bool (Bool.eq_false_iff.2 c19.out)) rfl) ?_
  refine OKS.r rfl rfl rfl rfl (fun _ => Runs.pickF rfl (congrArg Value.bool (Bool.eq_false_iff.2 c19.out)) rfl) ?_
  refine OKS.rm rfl rfl rfl rfl rfl rfl ?_
  refine OKS.p rfl rfl rfl (wantedN rfl rfl rfl rfl) ?_
  refine OKS.p rfl rfl rfl (wantedN rfl rfl rfl rfl) ?_
  refine OKS.p rfl rfl rfl (wantedN rfl rfl rfl rfl) ?_
  refine OKS.p rfl rfl rfl (wantedN rfl rfl rfl rfl) ?_
  refine OKS.p rfl rfl rfl (wantedN rfl rfl rfl rfl) ?_
  refine OKS.r rfl rfl rfl rfl (fun _ => Runs.pickF rfl rfl rfl) ?_
  refine OKS.rm rfl rfl rfl rfl rfl rfl ?_
  refine OKS.p rfl rfl rfl (wantedN rfl rfl rfl rfl) ?_
  refine OKS.p rfl rfl rfl (wantedN rfl rfl rfl rfl) ?_
  refine OKS.p rfl rfl rfl (wantedN rfl rfl rfl rfl) ?_
  refine OKS.p rfl rfl rfl (wantedN rfl rfl rfl rfl) ?_
  refine OKS.p rfl rfl rfl (wantedN rfl rfl rfl rfl) ?_
  refine OKS.r rfl rfl rfl rfl (fun _ => Runs.pickF rfl rfl rfl) ?_
  refine OKS.rm rfl rfl rfl rfl rfl rfl ?_
  refine OKS.p rfl rfl rfl (wantedN rfl rfl rfl rfl) ?_
  refine OKS.p rfl rfl rfl (wantedN rfl rfl rfl rfl) ?_
  refine OKS.p rfl rfl rfl (wantedN rfl rfl rfl rfl) ?_
  refine OKS.p rfl rfl rfl (wantedN rfl rfl rfl rfl) ?_
  refine OKS.p rfl rfl rfl (wantedN rfl rfl rfl rfl) ?_
  refine OKS.r rfl rfl rfl rfl (fun _ => Runs.pickF rfl rfl rfl) ?_
  refine OKS.rm rfl rfl rfl rfl rfl rfl ?_
  refine OKS.p rfl rfl rfl (wantedN rfl rfl rfl rfl) ?_
  refine OKS.p rfl rfl rfl (wantedN rfl rfl rfl rfl) ?_
  refine OKS.p rfl rfl rfl (wantedN rfl rfl rfl rfl) ?_
  refine OKS.p rfl rfl rfl (wantedN rfl rfl rfl rfl) ?_
  refine OKS.p rfl rfl rfl (wantedN rfl rfl rfl rfl) ?_
  refine OKS.r rfl rfl rfl rfl (fun _ => Runs.pickF rfl rfl rfl) ?_
  refine OKS.ra rfl rfl rfl rfl rfl rfl ?_
  refine OKS.e ?_
  refine thenQ_n ?_
  refine CK.ret ?_
  cases hm33
  exact ⟨rfl, _, (res1 rfl), φ12, _, (hS18.pick [] _ (by decide) rfl), rfl, rfl⟩
end Go.Proofs.YtfdnbaahdjlapaaGreat
