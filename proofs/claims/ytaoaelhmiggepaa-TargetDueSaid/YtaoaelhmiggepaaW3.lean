/- Walks, printed by a program: each function does what its model says. -/
import Derived.Test.YtaoaelhmiggepaaEnc
import Derived.Test.YtaoaelhmiggepaaW0
import Derived.Test.YtaoaelhmiggepaaW1
import Derived.Test.YtaoaelhmiggepaaW2
namespace Go.Proofs.Ytaoaelhmiggepaa
open Go.KL
set_option maxHeartbeats 4000000 in
theorem w_klisterlaw03_stepped (p0 : List T_target_Step) (pA0 : Option Addr) (pc0 : Nat) (w : World) (φ : PHeap) (hS : St ⟨w, [], φ⟩ φ [] w) (ha0 : Sl φ 2 pA0 pc0 p0.length (List.flatMap encT_target_Step p0)) {r : (List T_klisterref03_Step)} (hm : m_klisterlaw03_stepped p0 = some r) : Gv Try.prog 19 [.slice pA0 p0.length pc0] w (RetS w [] φ (fun φ_ L_ v => ∃ (A0 : Option Addr) (c0 : Nat), v = .slice A0 r.length c0 ∧ L_ = [.row A0 c0 137 2 (List.flatMap encT_klisterref03_Step r)])) := by
 unfold m_klisterlaw03_stepped at hm
 refine Gv.of Try.func19 rfl Try.ntmps19 Try.results19 rfl ?_
 refine CK.seq ?_
 refine CK.reg (ks := []) (.fl 0 (.nil)) rfl ?_
 refine OKS.ra rfl rfl rfl rfl rfl rfl ?_
 refine OKS.e ?_
 refine thenQ_n ?_
 refine CK.seq ?_
 refine CK.reg (ks := []) (.fl 0 (.nil)) rfl ?_
 refine OKS.ra rfl rfl rfl rfl rfl rfl ?_
 refine OKS.e ?_
 refine thenQ_n ?_
 refine CK.seq ?_
 refine CK.seq ?_
 refine CK.reg (ks := []) (.fl 0 (.fl 1 (.fl 2 (.nil)))) rfl ?_
 refine OKS.rm rfl rfl rfl rfl rfl rfl ?_
 refine OKS.r rfl rfl rfl rfl (fun _ => Runs.len rfl rfl Try.runUnderlying24) ?_
 refine OKS.rm rfl rfl rfl rfl rfl rfl ?_
 refine OKS.e ?_
 refine thenQ_n ?_
 refine CK.block ?_
 have q := bnd hm
 obtain ⟨y23, hf20, hm19⟩ := q
 have q := forR'_le hf20
 obtain ⟨hle21, hf22⟩ := q
 replace hle21 := Hid.mk hle21
 refine CK.forN' (fun k18 l14 σ_ w_ => ∃ (φ_ : PHeap) (A15 : Option Addr) (c16 : Nat), σ_ 8 = .int .i64 (↑k18 : Int) ∧ σ_ 3 = .slice A15 l14.length c16 ∧ σ_ 6 = .slice pA0 p0.length pc0 ∧ σ_ 7 = .int .i64 (↑p0.length : Int) ∧ PHeap.Le φ φ_ ∧ St ⟨w, [], φ⟩ φ_ [.row A15 c16 137 2 (List.flatMap encT_klisterref03_Step l14)] w_) hf22 ?_ ?_ ?_
 ·have hS24 := hS.nilrow 137 2
  exact ⟨φ, none, 0, rfl, rfl, rfl, rfl, (PHeap.Le.refl _), hS24⟩
 ·rintro k18 l14 xx28 σ26 W27 hk31 ⟨φ33, A15, c16, fi32, f36, f37, f38, le34, hS35⟩ hx29
  have c39 : Hid ((↑k18 : Int) < (↑p0.length : Int)) := Hid.mk (lp_lt0 hk31)
  replace hk31 := Hid.mk hk31
  have hi40 : Hid (w64 ((↑k18 : Int) + 1) = (↑(k18 + 1) : Int)) := Hid.mk (by have h1 := hle21.out; have h2 := c39.out; rw [w64_in] <;> omega)
  refine CK.seq ?_
  refine CK.reg (ks := []) (.fl 0 (.nil)) rfl ?_
  refine OKS.r rfl rfl rfl rfl (fun _ => Runs.lss rfl fi32 f38) ?_
  refine OKS.e ?_
  refine thenQ_n ?_
  refine CK.seq ?_
  refine CK.condT (decT c39.out) ?_
  refine CK.skip ?_
  refine thenQ_n ?_
  refine CK.seq ?_
  refine CK.block ?_
  refine CK.seq ?_
  refine CK.reg (ks := []) (.fl 0 (.fl 1 (.fx 2 (.fx 3 (.nil) .stop) .stop))) rfl ?_
  have q := bnd hx29
  obtain ⟨x41, h42, hm43⟩ := q
  have h44 := ha0.le le34
  have q := h44.el (fun _ => rfl) (idx_get h42)
  obtain ⟨b45, off46, hA47, hC48⟩ := q
  refine OKS.r rfl rfl rfl rfl (fun _ => Runs.iaN rfl f37 hA47 fi32 Try.runUnderlying24 Try.sizeOf35 (idx_lt h42)) ?_
  refine OKS.m rfl rfl rfl rfl (hS35.ldCA (f := 0) hC48 rfl rfl Try.isAgg35 Try.sizeOf35 (us := [.int .i64 x41.Kind, .int .i64 x41.Index]) rfl rfl) rfl ?_
  refine OKS.alloc (cs := [.int .i64 0, .int .i64 0]) rfl rfl rfl rfl rfl Try.zeroValue35 rfl hS35 ?_
  intro W49 b50 hS51
  refine OKS.st (j := 0) (vs := [.int .i64 x41.Kind, .int .i64 x41.Index]) rfl rfl rfl rfl hS51 rfl rfl rfl rfl Try.sizeOf35 (Nat.le_of_ble_eq_true rfl) rfl rfl rfl ?_
  intro W53 hS54
  have hS55 : St ⟨w, [], φ⟩ φ33 [.blk b50 35 [.int .i64 x41.Kind, .int .i64 x41.Index], .row A15 c16 137 2 (List.flatMap encT_klisterref03_Step l14)] W53 := hS54
  refine OKS.e ?_
  refine thenQ_n ?_
  refine CK.reg (ks := []) (.fl 0 (.fl 1 (.fl 2 (.fl 3 (.fl 4 (.fl 5 (.fx 6 (.fx 7 (.fl 8 (.nil)) .stop) .stop))))))) rfl ?_
  refine OKS.rm rfl rfl rfl rfl rfl f36 ?_
  refine OKS.r rfl rfl rfl rfl (fun _ => Runs.fa rfl rfl Try.runUnderlying35 rfl Try.sizeOf33) ?_
  refine OKS.m rfl rfl rfl rfl (hS55.ldB (j := 0) rfl rfl rfl Try.isAgg33 (v := .int .i64 x41.Kind) rfl) rfl ?_
  refine OKS.r rfl rfl rfl rfl (fun _ => Runs.fa rfl rfl Try.runUnderlying35 rfl Try.sizeOf3) ?_
  refine OKS.m rfl rfl rfl rfl (hS55.ldB (j := 0) rfl rfl rfl Try.isAgg3 (v := .int .i64 x41.Index) rfl) rfl ?_
  refine OKS.r rfl rfl rfl rfl (fun _ => Runs.build (pv := [(0, .int .i64 x41.Kind), (1, .int .i64 x41.Index)]) (z := [.int .i64 0, .int .i64 0]) (cs := [.int .i64 x41.Kind, .int .i64 x41.Index]) rfl (mapcons2 rfl (mapcons2 rfl mapnil2)) Try.zeroValue137 places137 rfl rfl) ?_
  refine OKS.buildSlice (pv := [(0, .agg #[.int .i64 x41.Kind, .int .i64 x41.Index])]) (zs := [.int .i64 0, .int .i64 0]) (cs := [.int .i64 x41.Kind, .int .i64 x41.Index]) rfl rfl rfl rfl rfl (mapcons2 rfl mapnil2) Try.runUnderlying45 Try.sizeOf137 Try.zeroValue137 rfl rfl rfl rfl rfl hS55 ?_
  intro W56 b57 hS58
  have hS60 : St ⟨w, [], φ⟩ φ33 [.row (some ⟨b57, 0, none⟩) 1 137 2 (List.flatMap encT_klisterref03_Step [(⟨x41.Kind, x41.Index⟩ : T_klisterref03_Step)]), .blk b50 35 [.int .i64 x41.Kind, .int .i64 x41.Index], .row A15 c16 137 2 (List.flatMap encT_klisterref03_Step l14)] W56 := hS58
  have q := bnd hm43
  obtain ⟨x61, h62, hm63⟩ := q
  refine OKS.append (j := 2) (enc := encT_klisterref03_Step) (xs := l14) (ys := [(⟨x41.Kind, x41.Index⟩ : T_klisterref03_Step)]) (zs := x61) rfl rfl rfl rfl rfl Try.underlying45 info137 rfl rfl rfl rfl rfl rfl hS60 rfl rfl rfl (hS60.srcR (j := 0) rfl (by decide) (flatMap_len (f := encT_klisterref03_Step) (sz := 2) (fun _ => rfl) [(⟨x41.Kind, x41.Index⟩ : T_klisterref03_Step)])) (fun _ => rfl) (fun _ => rfl) h62 rfl ?_
  intro A64 c65 W66 hS67
  have hS68 : St ⟨w, [], φ⟩ φ33 [.row (some ⟨b57, 0, none⟩) 1 137 2 (List.flatMap encT_klisterref03_Step [(⟨x41.Kind, x41.Index⟩ : T_klisterref03_Step)]), .blk b50 35 [.int .i64 x41.Kind, .int .i64 x41.Index], .row A64 c65 137 2 (List.flatMap encT_klisterref03_Step x61)] W66 := hS67
  refine OKS.ra rfl rfl rfl rfl rfl rfl ?_
  refine OKS.e ?_
  refine blockQ_n ?_
  refine thenQ_n ?_
  refine CK.reg (ks := []) (.fl 0 (.fl 1 (.nil))) rfl ?_
  refine OKS.r rfl rfl rfl rfl (fun _ => Runs.to (Runs.addw rfl fi32 rfl) (congrArg (Value.int .i64) hi40.out)) ?_
  refine OKS.rm rfl rfl rfl rfl rfl rfl ?_
  refine OKS.e ?_
  cases hm63
  exact thenQ_n ⟨rfl, ⟨φ33, A64, c65, rfl, rfl, f37, f38, le34, (hS68.pick [2] _ (by decide) rfl)⟩⟩
 ·rintro σ72 W73 ⟨φ81, A79, c80, fi75, f84, f85, f86, le82, hS83⟩
  have c87 : Hid (¬ ((↑(((↑p0.length : Int) : Int) - 0).toNat : Int) < (↑p0.length : Int))) := Hid.mk (lp_end0)
  refine CK.seq ?_
  refine CK.reg (ks := []) (.fl 0 (.nil)) rfl ?_
  refine OKS.r rfl rfl rfl rfl (fun _ => Runs.lss rfl fi75 f86) ?_
  refine OKS.e ?_
  refine thenQ_n ?_
  refine CK.seq ?_
  refine CK.condF (decF c87.out) ?_
  refine CK.exit ?_
  refine thenQ_e ?_
  refine thenQ_e ?_
  refine blockQ_h ?_
  refine thenQ_n ?_
  refine CK.seq ?_
  refine CK.reg (ks := []) (.fl 0 (.fl 1 (.nil))) rfl ?_
  refine OKS.rm rfl rfl rfl rfl rfl f84 ?_
  refine OKS.ra rfl rfl rfl rfl rfl rfl ?_
  refine OKS.e ?_
  refine thenQ_n ?_
  refine CK.ret ?_
  cases hm19
  exact ⟨rfl, _, (res1 rfl), φ81, _, hS83, A79, c80, rfl, rfl⟩

set_option maxHeartbeats 4000000 in
theorem w_klisterref03_RoundShows (p0 : List Int) (pA0 : Option Addr) (pc0 : Nat) (p1 : List T_klisterref03_Sheet) (pA1 : Option Addr) (pc1 : Nat) (p2 : List T_klisterref03_Step) (pA2 : Option Addr) (pc2 : Nat) (w : World) (φ : PHeap) (hS : St ⟨w, [], φ⟩ φ [] w) (ha0 : Sl φ 1 pA0 pc0 p0.length (List.flatMap encI p0)) (ha1 : Sl φ 4 pA1 pc1 p1.length (List.flatMap encT_klisterref03_Sheet p1)) (ha2 : Sl φ 2 pA2 pc2 p2.length (List.flatMap encT_klisterref03_Step p2)) {r : Int × Int} (hm : m_klisterref03_RoundShows p0 p1 p2 = some r) : Gv Try.prog 18 [.slice pA0 p0.length pc0, .slice pA1 p1.length pc1, .slice pA2 p2.length pc2] w (RetS w [] φ (fun φ_ L_ v => v = .tuple #[.int .i64 r.1, .int .i64 r.2] ∧ L_ = [])) := by
 unfold m_klisterref03_RoundShows at hm
 refine Gv.of Try.func18 rfl Try.ntmps18 Try.results18 rfl ?_
 refine CK.seq ?_
 refine CK.reg (ks := []) (.fl 0 (.fl 1 (.nil))) rfl ?_
 refine OKS.ra rfl rfl rfl rfl rfl rfl ?_
 refine OKS.ra rfl rfl rfl rfl rfl rfl ?_
 refine OKS.e ?_
 refine thenQ_n ?_
 refine CK.seq ?_
 refine CK.seq ?_
 refine CK.reg (ks := []) (.fl 0 (.fl 1 (.fx 2 (.fl 3 (.nil)) .stop))) rfl ?_
 refine OKS.rm rfl rfl rfl rfl rfl rfl ?_
 refine OKS.rm rfl rfl rfl rfl rfl rfl ?_
 have q := bnd hm
 obtain ⟨x1, h2, hm3⟩ := q
 refine OKS.callH 0 rfl rfl rfl rfl (Enters.mk rfl rfl Try.call67 (mapcons rfl (mapcons rfl mapnil)) rfl) hS (fun hs => w_klisterref03_Owed p0 pA0 pc0 p1 pA1 pc1 w φ hs ha0 ha1 h2) (.inr rfl) ?_
 rintro φ4 L5 v6 W7 le8 hS9 ⟨rfl, rfl⟩
 have hS10 : St ⟨w, [], φ⟩ φ4 [] W7 := hS9
 refine OKS.ra rfl rfl rfl rfl rfl rfl ?_
 refine OKS.e ?_
 refine thenQ_n ?_
 refine CK.seq ?_
 refine CK.reg (ks := []) (.fl 0 (.fl 1 (.nil))) rfl ?_
 refine OKS.rm rfl rfl rfl rfl rfl rfl ?_
 refine OKS.r rfl rfl rfl rfl (fun _ => Runs.neq rfl rfl rfl) ?_
 refine OKS.e ?_
 refine thenQ_n ?_
 by_cases c11 : x1 = 0
 ·have hm12 := hm3; rw [if_pos c11] at hm12; replace c11 := Hid.mk c11
  refine CK.condF (decF (fun h => h c11.out)) ?_
  refine CK.skip ?_
  refine thenQ_n ?_
  refine CK.seq ?_
  refine CK.seq ?_
  refine CK.reg (ks := []) (.fl 0 (.fl 1 (.fl 2 (.fl 3 (.fl 4 (.fl 5 (.fl 6 (.fl 7 (.nil))))))))) rfl ?_
  refine OKS.rm rfl rfl rfl rfl rfl rfl ?_
  refine OKS.r rfl rfl rfl rfl (fun _ => Runs.len rfl rfl Try.runUnderlying45) ?_
  refine OKS.r rfl rfl rfl rfl (fun _ => Runs.lss rfl rfl rfl) ?_
  refine OKS.rm rfl rfl rfl rfl rfl rfl ?_
  by_cases c13 : (↑p2.length : Int) < 1
  ·have hm14 := hm12; rw [if_pos c13] at hm14; replace c13 := Hid.mk c13
   refine OKS.p rfl rfl rfl (wantedN rfl rfl (decT c13.out) rfl) ?_
   refine OKS.p rfl rfl rfl (wantedN rfl rfl (decT c13.out) rfl) ?_
   refine OKS.p rfl rfl rfl (wantedN rfl rfl (decT c13.out) rfl) ?_
   refine OKS.r rfl rfl rfl rfl (fun _ => Runs.pickT rfl (decT c13.out) rfl) ?_
   refine OKS.e ?_
   refine thenQ_n ?_
   refine CK.condT rfl ?_
   refine CK.seq ?_
   refine CK.reg (ks := []) (.fl 0 (.fl 1 (.nil))) rfl ?_
   refine OKS.ra rfl rfl rfl rfl rfl rfl ?_
   refine OKS.ra rfl rfl rfl rfl rfl rfl ?_
   refine OKS.e ?_
   refine thenQ_n ?_
   refine CK.ret ?_
   refine thenQ_r ?_
   cases hm14
   exact ⟨rfl, _, (res2 rfl rfl), φ4, _, hS10, rfl, rfl⟩
  ·have hm15 := hm12; rw [if_neg c13] at hm15; replace c13 := Hid.mk c13
   refine OKS.rm rfl rfl rfl (wantedY rfl rfl (decF c13.out)) rfl rfl ?_
   refine OKS.r rfl rfl rfl (wantedY rfl rfl (decF c13.out)) (fun _ => Runs.len rfl rfl Try.runUnderlying45) ?_
   refine OKS.r rfl rfl rfl (wantedY rfl rfl (decF c13.out)) (fun _ => Runs.gtr rfl rfl rfl) ?_
   refine OKS.r rfl rfl rfl rfl (fun _ => Runs.pickF rfl (decF c13.out) rfl) ?_
   refine OKS.e ?_
   refine thenQ_n ?_
   by_cases c16 : 40 < (↑p2.length : Int)
   ·have hm17 := hm15; rw [if_pos c16] at hm17; replace c16 := Hid.mk c16
    refine CK.condT (decT c16.out) ?_
    refine CK.seq ?_
    refine CK.reg (ks := []) (.fl 0 (.fl 1 (.nil))) rfl ?_
    refine OKS.ra rfl rfl rfl rfl rfl rfl ?_
    refine OKS.ra rfl rfl rfl rfl rfl rfl ?_
    refine OKS.e ?_
    refine thenQ_n ?_
    refine CK.ret ?_
    refine thenQ_r ?_
    cases hm17
    exact ⟨rfl, _, (res2 rfl rfl), φ4, _, hS10, rfl, rfl⟩
   ·have hm18 := hm15; rw [if_neg c16] at hm18; replace c16 := Hid.mk c16
    refine CK.condF (decF c16.out) ?_
    refine CK.skip ?_
    refine thenQ_n ?_
    refine CK.seq ?_
    refine CK.reg (ks := []) (.fl 0 (.fl 1 (.nil))) rfl ?_
    refine OKS.ra rfl rfl rfl rfl rfl rfl ?_
    refine OKS.ra rfl rfl rfl rfl rfl rfl ?_
    refine OKS.e ?_
    refine thenQ_n ?_
    refine CK.seq ?_
    refine CK.reg (ks := []) (.fl 0 (.nil)) rfl ?_
    refine OKS.ra rfl rfl rfl rfl rfl rfl ?_
    refine OKS.e ?_
    refine thenQ_n ?_
    refine CK.seq ?_
    refine CK.seq ?_
    refine CK.reg (ks := []) (.fl 0 (.nil)) rfl ?_
    refine OKS.ra rfl rfl rfl rfl rfl rfl ?_
    refine OKS.e ?_
    refine thenQ_n ?_
    refine CK.block ?_
    have q := jn_some hm18
    obtain ⟨r56, hX57⟩ := q
    have q := forR_le hX57
    obtain ⟨hle58, hf59⟩ := q
    replace hle58 := Hid.mk hle58
    refine CK.forN (fun k55 (l46, l50, x54) σ_ w_ => ∃ (φ_ : PHeap) (A47 : Option Addr) (c48 : Nat) (A51 : Option Addr) (c52 : Nat), σ_ 12 = .int .i64 (↑k55 : Int) ∧ σ_ 0 = .slice pA0 p0.length pc0 ∧ σ_ 1 = .slice pA1 p1.length pc1 ∧ σ_ 2 = .slice pA2 p2.length pc2 ∧ σ_ 9 = .slice A47 l46.length c48 ∧ σ_ 10 = .slice A51 l50.length c52 ∧ σ_ 11 = .int .i64 x54 ∧ PHeap.Le φ4 φ_ ∧ St ⟨w, [], φ⟩ φ_ [.row A47 c48 3 1 (List.flatMap encI l46), .row A51 c52 3 1 (List.flatMap encI l50)] w_) hf59 ?_ ?_ ?_
    ·have hS60 := hS10.nilrow 3 1
     have hS62 := hS60.nilrow 3 1
     exact ⟨φ4, none, 0, none, 0, rfl, rfl, rfl, rfl, rfl, rfl, rfl, (PHeap.Le.refl _), (hS62.pick [1, 0] _ (by decide) rfl)⟩
    ·rintro k55 ⟨l46, l50, x54⟩ xx66 σ64 W65 hk69 ⟨φ71, A47, c48, A51, c52, fi70, f74, f75, f76, f77, f78, f79, le72, hS73⟩ hx67 hb68
     try dsimp only at hx67
     have c80 : Hid ((↑k55 : Int) < (↑p2.length : Int)) := Hid.mk (lp_lt0 hk69)
     replace hk69 := Hid.mk hk69
     have hi81 : Hid (w64 ((↑k55 : Int) + 1) = (↑(k55 + 1) : Int)) := Hid.mk (by have h1 := hle58.out; have h2 := c80.out; rw [w64_in] <;> omega)
     refine CK.seq ?_
     refine CK.seq ?_
     refine CK.reg (ks := []) (.fl 0 (.fl 1 (.fl 2 (.fl 3 (.nil))))) rfl ?_
     refine OKS.rm rfl rfl rfl rfl rfl fi70 ?_
     refine OKS.rm rfl rfl rfl rfl rfl f76 ?_
     refine OKS.r rfl rfl rfl rfl (fun _ => Runs.len rfl rfl Try.runUnderlying45) ?_
     refine OKS.r rfl rfl rfl rfl (fun _ => Runs.lss rfl rfl rfl) ?_
     refine OKS.e ?_
     refine thenQ_n ?_
     refine CK.condT (decT c80.out) ?_
     refine CK.skip ?_
     refine thenQ_n ?_
     have q := jn_some hx67
     obtain ⟨r89, hx90⟩ := q
     refine CK.cut (fun σ_ w_ => ∃ (l82 : List Int) (l85 : List Int) (x88 : Int), r89 = .inl (l82, l85, x88) ∧ ∃ (φ_ : PHeap) (A83 : Option Addr) (c84 : Nat) (A86 : Option Addr) (c87 : Nat), σ_ 0 = .slice pA0 p0.length pc0 ∧ σ_ 1 = .slice pA1 p1.length pc1 ∧ σ_ 2 = .slice pA2 p2.length pc2 ∧ σ_ 9 = .slice A83 l82.length c84 ∧ σ_ 10 = .slice A86 l85.length c87 ∧ σ_ 11 = .int .i64 x88 ∧ σ_ 12 = .int .i64 (↑k55 : Int) ∧ PHeap.Le φ71 φ_ ∧ St ⟨w, [], φ⟩ φ_ [.row A83 c84 3 1 (List.flatMap encI l82), .row A86 c87 3 1 (List.flatMap encI l85)] w_) ?_ ?_
     ·refine CK.block ?_
      refine CK.seq ?_
      refine CK.anyOrd Try.mixed [3, 3, 3, 3, 1, 3, 3, 3, 3, 1, 3, 3] (.fl 0 (.fl 1 (.fl 2 (.fl 3 (.fl 4 (.fl 5 (.fl 6 (.fl 7 (.fl 8 (.fl 9 (.fl 10 (.fl 11 (.nil))))))))))))) (by kernel_rfl) ?_
      have hS91 := hS73.drew
      generalize hw_W92 : ({ W65 with drawn := W65.drawn + 1 } : World) = W92 at hS91 ⊢
      refine OKS.rm rfl rfl rfl rfl rfl f76 ?_
      refine OKS.rm rfl rfl rfl rfl rfl fi70 ?_
      have q := bnd hx90
      obtain ⟨x93, h94, hm95⟩ := q
      have h96 := ha2.le le8
      have h97 := h96.le le72
      have q := h97.el (fun _ => rfl) (idx_get h94)
      obtain ⟨b98, off99, hA100, hC101⟩ := q
      refine OKS.r rfl rfl rfl rfl (fun _ => Runs.iaN rfl rfl hA100 rfl Try.runUnderlying45 Try.sizeOf137 (idx_lt h94)) ?_
      refine OKS.r rfl rfl rfl rfl (fun _ => Runs.fa rfl rfl Try.runUnderlying137 rfl Try.sizeOf3) ?_
      refine OKS.m rfl rfl rfl rfl (hS91.ldC (f := 0) hC101 (v := .int .i64 x93.Kind) rfl rfl Try.isAgg3 rfl) rfl ?_
      refine OKS.rm rfl rfl rfl rfl rfl f76 ?_
      refine OKS.rm rfl rfl rfl rfl rfl fi70 ?_
      have q := h97.el (fun _ => rfl) (idx_get h94)
      obtain ⟨b102, off103, hA104, hC105⟩ := q
      refine OKS.r rfl rfl rfl rfl (fun _ => Runs.iaN rfl rfl hA104 rfl Try.runUnderlying45 Try.sizeOf137 (idx_lt h94)) ?_
      refine OKS.r rfl rfl rfl rfl (fun _ => Runs.fa rfl rfl Try.runUnderlying137 rfl Try.sizeOf3) ?_
      refine OKS.m rfl rfl rfl rfl (hS91.ldC (f := 1) hC105 (v := .int .i64 x93.Index) rfl rfl Try.isAgg3 rfl) rfl ?_
      refine OKS.ra rfl rfl rfl rfl rfl rfl ?_
      refine OKS.ra rfl rfl rfl rfl rfl rfl ?_
      refine OKS.e ?_
      refine thenQ_n ?_
      refine CK.seq ?_
      have q := bnd hm95
      obtain ⟨b106, hx108, hm109⟩ := q
      refine CK.cut (fun σ_ w_ => ∃ (φ_ : PHeap), σ_ 0 = .slice pA0 p0.length pc0 ∧ σ_ 1 = .slice pA1 p1.length pc1 ∧ σ_ 2 = .slice pA2 p2.length pc2 ∧ σ_ 9 = .slice A47 l46.length c48 ∧ σ_ 10 = .slice A51 l50.length c52 ∧ σ_ 11 = .int .i64 x54 ∧ σ_ 12 = .int .i64 (↑k55 : Int) ∧ σ_ 13 = .int .i64 x93.Kind ∧ σ_ 14 = .int .i64 x93.Index ∧ σ_ 72 = .bool b106 ∧ PHeap.Le φ71 φ_ ∧ St ⟨w, [], φ⟩ φ_ [.row A47 c48 3 1 (List.flatMap encI l46), .row A51 c52 3 1 (List.flatMap encI l50)] w_) ?_ ?_
      ·refine CK.reg (ks := []) (.fl 0 (.fx 1 (.fl 2 (.fl 3 (.fl 4 (.fl 5 (.fl 6 (.fl 7 (.fl 8 (.fl 9 (.fl 10 (.fl 11 (.fl 12 (.fl 13 (.fl 14 (.fl 15 (.fl 16 (.fl 17 (.fl 18 (.fl 19 (.fl 20 (.fl 21 (.fl 22 (.fl 23 (.fl 24 (.fl 25 (.nil))))))))))))))))))))))))) .stop)) rfl ?_
       refine OKS.rm rfl rfl rfl rfl rfl rfl ?_
       have q := bnd hx108
       obtain ⟨x110, h111, hm112⟩ := q
       refine OKS.callH 0 rfl rfl rfl rfl (Enters.mk rfl rfl Try.call71 (mapcons rfl (mapcons rfl (mapcons rfl mapnil))) rfl) hS91 (fun hs => w_klisterref03_outside x93.Kind 0 4 W92 φ71 hs h111) (.inr rfl) ?_
       rintro φ113 L114 v115 W116 le117 hS118 ⟨rfl, rfl⟩
       have hS119 : St ⟨w, [], φ⟩ φ113 [.row A47 c48 3 1 (List.flatMap encI l46), .row A51 c52 3 1 (List.flatMap encI l50)] W116 := hS118
       refine OKS.rm rfl rfl rfl rfl rfl rfl ?_
       by_cases c120 : x110 = true
       ·have hm121 := hm112; rw [if_pos c120] at hm121; replace c120 := Hid.mk c120
        refine OKS.p rfl rfl rfl (wantedN rfl rfl (congrArg Value.bool c120.out) rfl) ?_
        refine OKS.p rfl rfl rfl (wantedN rfl rfl (congrArg Value.bool c120.out) rfl) ?_
        refine OKS.r rfl rfl rfl rfl (fun _ => Runs.pickT rfl (congrArg Value.bool c120.out) rfl) ?_
        refine OKS.rm rfl rfl rfl rfl rfl rfl ?_
        refine OKS.p rfl rfl rfl (wantedN rfl rfl rfl rfl) ?_
        refine OKS.p rfl rfl rfl (wantedN rfl rfl rfl rfl) ?_
        refine OKS.p rfl rfl rfl (wantedN rfl rfl rfl rfl) ?_
        refine OKS.p rfl rfl rfl (wantedU rfl rfl rfl) ?_
        refine OKS.p rfl rfl rfl (wantedU rfl rfl rfl) ?_
        refine OKS.p rfl rfl rfl (wantedU rfl rfl rfl) ?_
        refine OKS.p rfl rfl rfl (wantedU rfl rfl rfl) ?_
        refine OKS.p rfl rfl rfl (wantedN rfl rfl rfl rfl) ?_
        refine OKS.r rfl rfl rfl rfl (fun _ => Runs.pickT rfl rfl rfl) ?_
        refine OKS.rm rfl rfl rfl rfl rfl rfl ?_
        refine OKS.p rfl rfl rfl (wantedN rfl rfl rfl rfl) ?_
        refine OKS.p rfl rfl rfl (wantedN rfl rfl rfl rfl) ?_
        refine OKS.p rfl rfl rfl (wantedN rfl rfl rfl rfl) ?_
        refine OKS.p rfl rfl rfl (wantedU rfl rfl rfl) ?_
        refine OKS.p rfl rfl rfl (wantedU rfl rfl rfl) ?_
        refine OKS.p rfl rfl rfl (wantedU rfl rfl rfl) ?_
        refine OKS.p rfl rfl rfl (wantedU rfl rfl rfl) ?_
        refine OKS.p rfl rfl rfl (wantedN rfl rfl rfl rfl) ?_
        refine OKS.r rfl rfl rfl rfl (fun _ => Runs.pickT rfl rfl rfl) ?_
        refine OKS.e ?_
        cases hm121
        exact thenQ_n ⟨rfl, ⟨φ113, f74, f75, f76, f77, f78, f79, fi70, rfl, rfl, rfl, le117, hS119⟩⟩
       ·have hm123 := hm112; rw [if_neg c120] at hm123; replace c120 := Hid.mk c120
        refine OKS.rm rfl rfl rfl (wantedY rfl rfl (congrArg Value.bool (Bool.eq_false_iff.2 c120.out))) rfl rfl ?_
        refine OKS.r rfl rfl rfl (wantedY rfl rfl (congrArg Value.bool (Bool.eq_false_iff.2 c120.out))) (fun _ => Runs.lss rfl rfl rfl) ?_
        refine OKS.r rfl rfl rfl rfl (fun _ => Runs.pickF rfl (congrArg Value.bool (Bool.eq_false_iff.2 c120.out)) rfl) ?_
        refine OKS.rm rfl rfl rfl rfl rfl rfl ?_
        by_cases c124 : x93.Index < 0
        ·have hm125 := hm123; rw [if_pos c124] at hm125; replace c124 := Hid.mk c124
         refine OKS.p rfl rfl rfl (wantedN rfl rfl (decT c124.out) rfl) ?_
         refine OKS.p rfl rfl rfl (wantedN rfl rfl (decT c124.out) rfl) ?_
         refine OKS.p rfl rfl rfl (wantedN rfl rfl (decT c124.out) rfl) ?_
         refine OKS.p rfl rfl rfl (wantedU rfl rfl rfl) ?_
         refine OKS.p rfl rfl rfl (wantedU rfl rfl rfl) ?_
         refine OKS.p rfl rfl rfl (wantedU rfl rfl rfl) ?_
         refine OKS.p rfl rfl rfl (wantedU rfl rfl rfl) ?_
         refine OKS.p rfl rfl rfl (wantedN rfl rfl (decT c124.out) rfl) ?_
         refine OKS.r rfl rfl rfl rfl (fun _ => Runs.pickT rfl (decT c124.out) rfl) ?_
         refine OKS.rm rfl rfl rfl rfl rfl rfl ?_
         refine OKS.p rfl rfl rfl (wantedN rfl rfl rfl rfl) ?_
         refine OKS.p rfl rfl rfl (wantedN rfl rfl rfl rfl) ?_
         refine OKS.p rfl rfl rfl (wantedN rfl rfl rfl rfl) ?_
         refine OKS.p rfl rfl rfl (wantedU rfl rfl rfl) ?_
         refine OKS.p rfl rfl rfl (wantedU rfl rfl rfl) ?_
         refine OKS.p rfl rfl rfl (wantedU rfl rfl rfl) ?_
         refine OKS.p rfl rfl rfl (wantedU rfl rfl rfl) ?_
         refine OKS.p rfl rfl rfl (wantedN rfl rfl rfl rfl) ?_
         refine OKS.r rfl rfl rfl rfl (fun _ => Runs.pickT rfl rfl rfl) ?_
         refine OKS.e ?_
         cases hm125
         exact thenQ_n ⟨rfl, ⟨φ113, f74, f75, f76, f77, f78, f79, fi70, rfl, rfl, rfl, le117, hS119⟩⟩
        ·have hm127 := hm123; rw [if_neg c124] at hm127; replace c124 := Hid.mk c124
         refine OKS.rm rfl rfl rfl (wantedY rfl rfl (decF c124.out)) rfl rfl ?_
         refine OKS.r rfl rfl rfl (wantedY rfl rfl (decF c124.out)) (fun _ => Runs.lss rfl rfl rfl) ?_
         refine OKS.rm rfl rfl rfl (wantedY rfl rfl (decF c124.out)) rfl rfl ?_
         by_cases c128 : x93.Kind < 2
         ·have hm129 := hm127; rw [if_pos c128] at hm129; replace c128 := Hid.mk c128
          refine OKS.rm rfl rfl rfl (wantedY rfl rfl (decT c128.out)) rfl rfl ?_
          refine OKS.rm rfl rfl rfl (wantedY rfl rfl (decT c128.out)) rfl f75 ?_
          refine OKS.r rfl rfl rfl (wantedY rfl rfl (decT c128.out)) (fun _ => Runs.len rfl rfl Try.runUnderlying36) ?_
          refine OKS.r rfl rfl rfl (wantedY rfl rfl (decT c128.out)) (fun _ => Runs.geq rfl rfl rfl) ?_
          refine OKS.r rfl rfl rfl (wantedY rfl rfl (decF c124.out)) (fun _ => Runs.pickT rfl (decT c128.out) rfl) ?_
          refine OKS.r rfl rfl rfl rfl (fun _ => Runs.pickF rfl (decF c124.out) rfl) ?_
          refine OKS.rm rfl rfl rfl rfl rfl rfl ?_
          by_cases c130 : (↑p1.length : Int) ≤ x93.Index
          ·have hm131 := hm129; rw [if_pos c130] at hm131; replace c130 := Hid.mk c130
           refine OKS.p rfl rfl rfl (wantedN rfl rfl (decT c130.out) rfl) ?_
           refine OKS.p rfl rfl rfl (wantedN rfl rfl (decT c130.out) rfl) ?_
           refine OKS.p rfl rfl rfl (wantedN rfl rfl (decT c130.out) rfl) ?_
           refine OKS.p rfl rfl rfl (wantedU rfl rfl rfl) ?_
           refine OKS.p rfl rfl rfl (wantedU rfl rfl rfl) ?_
           refine OKS.p rfl rfl rfl (wantedU rfl rfl rfl) ?_
           refine OKS.p rfl rfl rfl (wantedU rfl rfl rfl) ?_
           refine OKS.p rfl rfl rfl (wantedN rfl rfl (decT c130.out) rfl) ?_
           refine OKS.r rfl rfl rfl rfl (fun _ => Runs.pickT rfl (decT c130.out) rfl) ?_
           refine OKS.e ?_
           cases hm131
           exact thenQ_n ⟨rfl, ⟨φ113, f74, f75, f76, f77, f78, f79, fi70, rfl, rfl, rfl, le117, hS119⟩⟩
          ·have hm133 := hm129; rw [if_neg c130] at hm133; replace c130 := Hid.mk c130
           refine OKS.rm rfl rfl rfl (wantedY rfl rfl (decF c130.out)) rfl rfl ?_
           refine OKS.r rfl rfl rfl (wantedY rfl rfl (decF c130.out)) (fun _ => Runs.gtr rfl rfl rfl) ?_
           refine OKS.rm rfl rfl rfl (wantedY rfl rfl (decF c130.out)) rfl rfl ?_
           by_cases c134 : 1 < x93.Kind
           ·have hm135 := hm133; rw [if_pos c134] at hm135; replace c134 := Hid.mk c134
            refine OKS.rm rfl rfl rfl (wantedY rfl rfl (decT c134.out)) rfl rfl ?_
            refine OKS.rm rfl rfl rfl (wantedY rfl rfl (decT c134.out)) rfl f74 ?_
            refine OKS.r rfl rfl rfl (wantedY rfl rfl (decT c134.out)) (fun _ => Runs.len rfl rfl Try.runUnderlying22) ?_
            refine OKS.r rfl rfl rfl (wantedY rfl rfl (decT c134.out)) (fun _ => Runs.geq rfl rfl rfl) ?_
            refine OKS.r rfl rfl rfl (wantedY rfl rfl (decF c130.out)) (fun _ => Runs.pickT rfl (decT c134.out) rfl) ?_
            refine OKS.r rfl rfl rfl rfl (fun _ => Runs.pickF rfl (decF c130.out) rfl) ?_
            refine OKS.e ?_
            cases hm135
            exact thenQ_n ⟨rfl, ⟨φ113, f74, f75, f76, f77, f78, f79, fi70, rfl, rfl, rfl, le117, hS119⟩⟩
           ·have hm137 := hm133; rw [if_neg c134] at hm137; replace c134 := Hid.mk c134
            refine OKS.p rfl rfl rfl (wantedN rfl rfl (decF c134.out) rfl) ?_
            refine OKS.p rfl rfl rfl (wantedN rfl rfl (decF c134.out) rfl) ?_
            refine OKS.p rfl rfl rfl (wantedN rfl rfl (decF c134.out) rfl) ?_
            refine OKS.p rfl rfl rfl (wantedN rfl rfl (decF c134.out) rfl) ?_
            refine OKS.r rfl rfl rfl (wantedY rfl rfl (decF c130.out)) (fun _ => Runs.pickF rfl (decF c134.out) rfl) ?_
            refine OKS.r rfl rfl rfl rfl (fun _ => Runs.pickF rfl (decF c130.out) rfl) ?_
            refine OKS.e ?_
            cases hm137
            exact thenQ_n ⟨rfl, ⟨φ113, f74, f75, f76, f77, f78, f79, fi70, rfl, rfl, rfl, le117, hS119⟩⟩
         ·have hm139 := hm127; rw [if_neg c128] at hm139; replace c128 := Hid.mk c128
          refine OKS.p rfl rfl rfl (wantedN rfl rfl (decF c128.out) rfl) ?_
          refine OKS.p rfl rfl rfl (wantedN rfl rfl (decF c128.out) rfl) ?_
          refine OKS.p rfl rfl rfl (wantedN rfl rfl (decF c128.out) rfl) ?_
          refine OKS.p rfl rfl rfl (wantedN rfl rfl (decF c128.out) rfl) ?_
          refine OKS.r rfl rfl rfl (wantedY rfl rfl (decF c124.out)) (fun _ => Runs.pickF rfl (decF c128.out) rfl) ?_
          refine OKS.r rfl rfl rfl rfl (fun _ => Runs.pickF rfl (decF c124.out) rfl) ?_
          refine OKS.rm rfl rfl rfl rfl rfl rfl ?_
          refine OKS.rm rfl rfl rfl (wantedY rfl rfl rfl) rfl rfl ?_
          refine OKS.r rfl rfl rfl (wantedY rfl rfl rfl) (fun _ => Runs.gtr rfl rfl rfl) ?_
          refine OKS.rm rfl rfl rfl (wantedY rfl rfl rfl) rfl rfl ?_
          by_cases c140 : 1 < x93.Kind
          ·have hm141 := hm139; rw [if_pos c140] at hm141; replace c140 := Hid.mk c140
           refine OKS.rm rfl rfl rfl (wantedY rfl rfl (decT c140.out)) rfl rfl ?_
           refine OKS.rm rfl rfl rfl (wantedY rfl rfl (decT c140.out)) rfl f74 ?_
           refine OKS.r rfl rfl rfl (wantedY rfl rfl (decT c140.out)) (fun _ => Runs.len rfl rfl Try.runUnderlying22) ?_
           refine OKS.r rfl rfl rfl (wantedY rfl rfl (decT c140.out)) (fun _ => Runs.geq rfl rfl rfl) ?_
           refine OKS.r rfl rfl rfl (wantedY rfl rfl rfl) (fun _ => Runs.pickT rfl (decT c140.out) rfl) ?_
           refine OKS.r rfl rfl rfl rfl (fun _ => Runs.pickF rfl rfl rfl) ?_
           refine OKS.e ?_
           cases hm141
           exact thenQ_n ⟨rfl, ⟨φ113, f74, f75, f76, f77, f78, f79, fi70, rfl, rfl, rfl, le117, hS119⟩⟩
          ·have hm143 := hm139; rw [if_neg c140] at hm143; replace c140 := Hid.mk c140
           refine OKS.p rfl rfl rfl (wantedN rfl rfl (decF c140.out) rfl) ?_
           refine OKS.p rfl rfl rfl (wantedN rfl rfl (decF c140.out) rfl) ?_
           refine OKS.p rfl rfl rfl (wantedN rfl rfl (decF c140.out) rfl) ?_
           refine OKS.p rfl rfl rfl (wantedN rfl rfl (decF c140.out) rfl) ?_
           refine OKS.r rfl rfl rfl (wantedY rfl rfl rfl) (fun _ => Runs.pickF rfl (decF c140.out) rfl) ?_
           refine OKS.r rfl rfl rfl rfl (fun _ => Runs.pickF rfl rfl rfl) ?_
           refine OKS.e ?_
           cases hm143
           exact thenQ_n ⟨rfl, ⟨φ113, f74, f75, f76, f77, f78, f79, fi70, rfl, rfl, rfl, le117, hS119⟩⟩
      ·rintro σ145 W146 ⟨φ147, f150, f151, f152, f153, f154, f155, f156, f157, f158, f159, le148, hS149⟩
       by_cases c160 : b106 = true
       ·have hm161 := hm109; rw [if_pos c160] at hm161; replace c160 := Hid.mk c160
        refine CK.condT (f159.trans (congrArg Value.bool c160.out)) ?_
        refine CK.seq ?_
        refine CK.reg (ks := []) (.fl 0 (.fl 1 (.nil))) rfl ?_
        refine OKS.ra rfl rfl rfl rfl rfl rfl ?_
        refine OKS.ra rfl rfl rfl rfl rfl rfl ?_
        refine OKS.e ?_
        refine thenQ_n ?_
        refine CK.ret ?_
        refine thenQ_r ?_
        refine blockQ_r ?_
        have q := esc_spec hm161
        obtain ⟨v162, hm163, e164⟩ := q
        obtain rfl := jn_inr hx67 hx90 e164
        refine thenQ_r ?_
        have q := esc_spec hm163
        obtain ⟨v165, hm166, e167⟩ := q
        obtain rfl := jn_inr hm18 hX57 (hb68 v165 e167)
        refine thenQ_r ?_
        refine blockQ_r ?_
        refine thenQ_r ?_
        cases hm166
        exact ⟨rfl, _, (res2 rfl rfl), φ147, _, (hS149.pick [] _ (by decide) rfl), rfl, rfl⟩
       ·have hm168 := hm109; rw [if_neg c160] at hm168; replace c160 := Hid.mk c160
        refine CK.condF (f159.trans (congrArg Value.bool (Bool.eq_false_iff.2 c160.out))) ?_
        refine CK.skip ?_
        refine thenQ_n ?_
        refine CK.seq ?_
        refine CK.reg (ks := []) (.fl 0 (.nil)) rfl ?_
        refine OKS.rm rfl rfl rfl rfl rfl f157 ?_
        refine OKS.e ?_
        refine thenQ_n ?_
        refine CK.block ?_
        refine CK.seq ?_
        refine CK.reg (ks := []) (.fl 0 (.fl 1 (.nil))) rfl ?_
        refine OKS.r rfl rfl rfl rfl (fun _ => Runs.eql rfl rfl rfl) ?_
        refine OKS.ra rfl rfl rfl rfl rfl rfl ?_
        refine OKS.e ?_
        refine thenQ_n ?_
        by_cases c169 : x93.Kind = 0
        ·have hm170 := hm168; rw [if_pos c169] at hm170; replace c169 := Hid.mk c169
         refine CK.condT (decT c169.out) ?_
         have q := bnd hm170
         obtain ⟨⟨l171, l174⟩, hx178, hm179⟩ := q
         try dsimp only at hm179
         refine CK.cut (fun σ_ w_ => ∃ (φ_ : PHeap) (A172 : Option Addr) (c173 : Nat) (A175 : Option Addr) (c176 : Nat), σ_ 0 = .slice pA0 p0.length pc0 ∧ σ_ 1 = .slice pA1 p1.length pc1 ∧ σ_ 2 = .slice pA2 p2.length pc2 ∧ σ_ 9 = .slice A172 l171.length c173 ∧ σ_ 10 = .slice A175 l174.length c176 ∧ σ_ 11 = .int .i64 x54 ∧ σ_ 12 = .int .i64 (↑k55 : Int) ∧ σ_ 14 = .int .i64 x93.Index ∧ PHeap.Le φ147 φ_ ∧ St ⟨w, [], φ⟩ φ_ [.row A172 c173 3 1 (List.flatMap encI l171), .row A175 c176 3 1 (List.flatMap encI l174)] w_) ?_ ?_
         ·have q := bnd hx178
          obtain ⟨x180, h181, hm220⟩ := q
          have q := bnd hm220
          obtain ⟨x199, h200, hm221⟩ := q
          have q := bnd hm221
          obtain ⟨x212, h213, hm222⟩ := q
          refine CK.anyOrd Try.mixed [3, 3, 3, 3, 3, 1, 2, 0, 3, 3, 3, 3, 3, 2, 3, 2, 0, 3, 3] (.fl 0 (.fl 1 (.fl 2 (.fl 3 (.fl 4 (.fl 5 (.fl 8 (.fl 9 (.fl 10 (.fl 11 (.fl 12 (.fx 6 (.fx 7 (.fx 13 (.fl 14 (.fx 15 (.fx 16 (.fl 17 (.fl 18 (.nil))) (.stop)) (.stop))) (.stop)) (.fx 13 (.fl 14 (.fx 7 (.fx 15 (.fx 16 (.fl 17 (.fl 18 (.nil))) (.stop)) (.stop)) (.fx 15 (.fx 7 (.fx 16 (.fl 17 (.fl 18 (.nil))) (.stop)) (.stop)) (.stop)))) (.stop))) (.fx 13 (.fl 14 (.fx 6 (.fx 7 (.fx 15 (.fx 16 (.fl 17 (.fl 18 (.nil))) (.stop)) (.stop)) (.fx 15 (.fx 7 (.fx 16 (.fl 17 (.fl 18 (.nil))) (.stop)) (.stop)) (.stop))) (.fx 15 (.fx 6 (.fx 7 (.fx 16 (.fl 17 (.fl 18 (.nil))) (.stop)) (.stop)) (.stop)) (.stop)))) (.stop)))))))))))))) (by kernel_rfl) ?_
          have hS223 := hS149.drew
          generalize hw_W224 : ({ W146 with drawn := W146.drawn + 1 } : World) = W224 at hS223 ⊢
          refine OKS.rm rfl rfl rfl rfl rfl f153 ?_
          refine OKS.rm rfl rfl rfl rfl rfl f151 ?_
          refine OKS.rm rfl rfl rfl rfl rfl f158 ?_
          have h225 := ha1.le le8
          have h226 := h225.le le72
          have h227 := h226.le le148
          have q := h227.el (fun _ => rfl) (idx_get h181)
          obtain ⟨b228, off229, hA230, hC231⟩ := q
          refine OKS.r rfl rfl rfl rfl (fun _ => Runs.iaI rfl rfl hA230 rfl Try.runUnderlying36 Try.sizeOf121 (idx_lo h181) (idx_hi h181)) ?_
          refine OKS.r rfl rfl rfl rfl (fun _ => Runs.fa rfl rfl Try.runUnderlying121 rfl Try.sizeOf3) ?_
          refine OKS.m rfl rfl rfl rfl (hS223.ldC (f := 0) hC231 (v := .int .i64 x180.From) rfl rfl Try.isAgg3 rfl) rfl ?_
          refine OKS.rm rfl rfl rfl rfl rfl f154 ?_
          refine OKS.rm rfl rfl rfl rfl rfl f151 ?_
          refine OKS.rm rfl rfl rfl rfl rfl f158 ?_
          have q := h227.el (fun _ => rfl) (idx_get h181)
          obtain ⟨b232, off233, hA234, hC235⟩ := q
          refine OKS.r rfl rfl rfl rfl (fun _ => Runs.iaI rfl rfl hA234 rfl Try.runUnderlying36 Try.sizeOf121 (idx_lo h181) (idx_hi h181)) ?_
          refine OKS.r rfl rfl rfl rfl (fun _ => Runs.fa rfl rfl Try.runUnderlying121 rfl Try.sizeOf3) ?_
          refine OKS.both ?_ ?_
          ·refine OKS.buildSlice (pv := [(0, .int .i64 x180.From)]) (zs := [.int .i64 0]) (cs := [.int .i64 x180.From]) rfl rfl rfl rfl rfl (mapcons2 rfl mapnil2) Try.runUnderlying22 Try.sizeOf3 Try.zeroValue3 rfl rfl rfl rfl rfl hS223 ?_
           intro W236 b237 hS238
           have hS240 : St ⟨w, [], φ⟩ φ147 [.row (some ⟨b237, 0, none⟩) 1 3 1 (List.flatMap encI [x180.From]), .row A47 c48 3 1 (List.flatMap encI l46), .row A51 c52 3 1 (List.flatMap encI l50)] W236 := hS238
           refine OKS.both ?_ ?_
           ·refine OKS.append (j := 1) (enc := encI) (xs := l46) (ys := [x180.From]) (zs := x199) rfl rfl rfl rfl rfl Try.underlying22 info3 rfl rfl rfl rfl rfl rfl hS240 rfl rfl rfl (hS240.srcR (j := 0) rfl (by decide) (flatMap_len (f := encI) (sz := 1) (fun _ => rfl) [x180.From])) (fun _ => rfl) (fun _ => rfl) h200 rfl ?_
            intro A241 c242 W243 hS244
            have hS245 : St ⟨w, [], φ⟩ φ147 [.row (some ⟨b237, 0, none⟩) 1 3 1 (List.flatMap encI [x180.From]), .row A241 c242 3 1 (List.flatMap encI x199), .row A51 c52 3 1 (List.flatMap encI l50)] W243 := hS244
            refine OKS.mx2 rfl rfl rfl rfl (hS245.ldC (f := 1) hC235 (v := .int .i64 x180.To) rfl rfl Try.isAgg3 rfl) ?_
            refine OKS.r rfl rfl rfl rfl (fun _ => Runs.addw rfl rfl rfl) ?_
            refine OKS.buildSlice (pv := [(0, .int .i64 (w64 (x180.To + 1)))]) (zs := [.int .i64 0]) (cs := [.int .i64 (w64 (x180.To + 1))]) rfl rfl rfl rfl rfl (mapcons2 rfl mapnil2) Try.runUnderlying22 Try.sizeOf3 Try.zeroValue3 rfl rfl rfl rfl rfl hS245 ?_
            intro W246 b247 hS248
            have hS250 : St ⟨w, [], φ⟩ φ147 [.row (some ⟨b247, 0, none⟩) 1 3 1 (List.flatMap encI [w64 (x180.To + 1)]), .row (some ⟨b237, 0, none⟩) 1 3 1 (List.flatMap encI [x180.From]), .row A241 c242 3 1 (List.flatMap encI x199), .row A51 c52 3 1 (List.flatMap encI l50)] W246 := hS248
            refine OKS.append (j := 3) (enc := encI) (xs := l50) (ys := [w64 (x180.To + 1)]) (zs := x212) rfl rfl rfl rfl rfl Try.underlying22 info3 rfl rfl rfl rfl rfl rfl hS250 rfl rfl rfl (hS250.srcR (j := 0) rfl (by decide) (flatMap_len (f := encI) (sz := 1) (fun _ => rfl) [w64 (x180.To + 1)])) (fun _ => rfl) (fun _ => rfl) h213 rfl ?_
            intro A251 c252 W253 hS254
            have hS255 : St ⟨w, [], φ⟩ φ147 [.row (some ⟨b247, 0, none⟩) 1 3 1 (List.flatMap encI [w64 (x180.To + 1)]), .row (some ⟨b237, 0, none⟩) 1 3 1 (List.flatMap encI [x180.From]), .row A241 c242 3 1 (List.flatMap encI x199), .row A251 c252 3 1 (List.flatMap encI x212)] W253 := hS254
            refine OKS.ra rfl rfl rfl rfl rfl rfl ?_
            refine OKS.ra rfl rfl rfl rfl rfl rfl ?_
            refine OKS.e ?_
            cases hm222
            exact thenQ_n ⟨rfl, ⟨φ147, A241, c242, A251, c252, f150, f151, f152, rfl, rfl, f155, f156, f158, (PHeap.Le.refl _), (hS255.pick [2, 3] _ (by decide) rfl)⟩⟩
           ·refine OKS.mx2 rfl rfl rfl rfl (hS240.ldC (f := 1) hC235 (v := .int .i64 x180.To) rfl rfl Try.isAgg3 rfl) ?_
            refine OKS.r rfl rfl rfl rfl (fun _ => Runs.addw rfl rfl rfl) ?_
            refine OKS.both ?_ ?_
            ·refine OKS.append (j := 1) (enc := encI) (xs := l46) (ys := [x180.From]) (zs := x199) rfl rfl rfl rfl rfl Try.underlying22 info3 rfl rfl rfl rfl rfl rfl hS240 rfl rfl rfl (hS240.srcR (j := 0) rfl (by decide) (flatMap_len (f := encI) (sz := 1) (fun _ => rfl) [x180.From])) (fun _ => rfl) (fun _ => rfl) h200 rfl ?_
             intro A262 c263 W264 hS265
             have hS266 : St ⟨w, [], φ⟩ φ147 [.row (some ⟨b237, 0, none⟩) 1 3 1 (List.flatMap encI [x180.From]), .row A262 c263 3 1 (List.flatMap encI x199), .row A51 c52 3 1 (List.flatMap encI l50)] W264 := hS265
             refine OKS.buildSlice (pv := [(0, .int .i64 (w64 (x180.To + 1)))]) (zs := [.int .i64 0]) (cs := [.int .i64 (w64 (x180.To + 1))]) rfl rfl rfl rfl rfl (mapcons2 rfl mapnil2) Try.runUnderlying22 Try.sizeOf3 Try.zeroValue3 rfl rfl rfl rfl rfl hS266 ?_
             intro W267 b268 hS269
             have hS271 : St ⟨w, [], φ⟩ φ147 [.row (some ⟨b268, 0, none⟩) 1 3 1 (List.flatMap encI [w64 (x180.To + 1)]), .row (some ⟨b237, 0, none⟩) 1 3 1 (List.flatMap encI [x180.From]), .row A262 c263 3 1 (List.flatMap encI x199), .row A51 c52 3 1 (List.flatMap encI l50)] W267 := hS269
             refine OKS.append (j := 3) (enc := encI) (xs := l50) (ys := [w64 (x180.To + 1)]) (zs := x212) rfl rfl rfl rfl rfl Try.underlying22 info3 rfl rfl rfl rfl rfl rfl hS271 rfl rfl rfl (hS271.srcR (j := 0) rfl (by decide) (flatMap_len (f := encI) (sz := 1) (fun _ => rfl) [w64 (x180.To + 1)])) (fun _ => rfl) (fun _ => rfl) h213 rfl ?_
             intro A272 c273 W274 hS275
             have hS276 : St ⟨w, [], φ⟩ φ147 [.row (some ⟨b268, 0, none⟩) 1 3 1 (List.flatMap encI [w64 (x180.To + 1)]), .row (some ⟨b237, 0, none⟩) 1 3 1 (List.flatMap encI [x180.From]), .row A262 c263 3 1 (List.flatMap encI x199), .row A272 c273 3 1 (List.flatMap encI x212)] W274 := hS275
             refine OKS.ra rfl rfl rfl rfl rfl rfl ?_
             refine OKS.ra rfl rfl rfl rfl rfl rfl ?_
             refine OKS.e ?_
             cases hm222
             exact thenQ_n ⟨rfl, ⟨φ147, A262, c263, A272, c273, f150, f151, f152, rfl, rfl, f155, f156, f158, (PHeap.Le.refl _), (hS276.pick [2, 3] _ (by decide) rfl)⟩⟩
            ·refine OKS.buildSlice (pv := [(0, .int .i64 (w64 (x180.To + 1)))]) (zs := [.int .i64 0]) (cs := [.int .i64 (w64 (x180.To + 1))]) rfl rfl rfl rfl rfl (mapcons2 rfl mapnil2) Try.runUnderlying22 Try.sizeOf3 Try.zeroValue3 rfl rfl rfl rfl rfl hS240 ?_
             intro W283 b284 hS285
             have hS287 : St ⟨w, [], φ⟩ φ147 [.row (some ⟨b284, 0, none⟩) 1 3 1 (List.flatMap encI [w64 (x180.To + 1)]), .row (some ⟨b237, 0, none⟩) 1 3 1 (List.flatMap encI [x180.From]), .row A47 c48 3 1 (List.flatMap encI l46), .row A51 c52 3 1 (List.flatMap encI l50)] W283 := hS285
             refine OKS.append (j := 2) (enc := encI) (xs := l46) (ys := [x180.From]) (zs := x199) rfl rfl rfl rfl rfl Try.underlying22 info3 rfl rfl rfl rfl rfl rfl hS287 rfl rfl rfl (hS287.srcR (j := 1) rfl (by decide) (flatMap_len (f := encI) (sz := 1) (fun _ => rfl) [x180.From])) (fun _ => rfl) (fun _ => rfl) h200 rfl ?_
             intro A288 c289 W290 hS291
             have hS292 : St ⟨w, [], φ⟩ φ147 [.row (some ⟨b284, 0, none⟩) 1 3 1 (List.flatMap encI [w64 (x180.To + 1)]), .row (some ⟨b237, 0, none⟩) 1 3 1 (List.flatMap encI [x180.From]), .row A288 c289 3 1 (List.flatMap encI x199), .row A51 c52 3 1 (List.flatMap encI l50)] W290 := hS291
             refine OKS.append (j := 3) (enc := encI) (xs := l50) (ys := [w64 (x180.To + 1)]) (zs := x212) rfl rfl rfl rfl rfl Try.underlying22 info3 rfl rfl rfl rfl rfl rfl hS292 rfl rfl rfl (hS292.srcR (j := 0) rfl (by decide) (flatMap_len (f := encI) (sz := 1) (fun _ => rfl) [w64 (x180.To + 1)])) (fun _ => rfl) (fun _ => rfl) h213 rfl ?_
             intro A293 c294 W295 hS296
             have hS297 : St ⟨w, [], φ⟩ φ147 [.row (some ⟨b284, 0, none⟩) 1 3 1 (List.flatMap encI [w64 (x180.To + 1)]), .row (some ⟨b237, 0, none⟩) 1 3 1 (List.flatMap encI [x180.From]), .row A288 c289 3 1 (List.flatMap encI x199), .row A293 c294 3 1 (List.flatMap encI x212)] W295 := hS296
             refine OKS.ra rfl rfl rfl rfl rfl rfl ?_
             refine OKS.ra rfl rfl rfl rfl rfl rfl ?_
             refine OKS.e ?_
             cases hm222
             exact thenQ_n ⟨rfl, ⟨φ147, A288, c289, A293, c294, f150, f151, f152, rfl, rfl, f155, f156, f158, (PHeap.Le.refl _), (hS297.pick [2, 3] _ (by decide) rfl)⟩⟩
          ·refine OKS.mx2 rfl rfl rfl rfl (hS223.ldC (f := 1) hC235 (v := .int .i64 x180.To) rfl rfl Try.isAgg3 rfl) ?_
           refine OKS.r rfl rfl rfl rfl (fun _ => Runs.addw rfl rfl rfl) ?_
           refine OKS.both ?_ ?_
           ·refine OKS.buildSlice (pv := [(0, .int .i64 x180.From)]) (zs := [.int .i64 0]) (cs := [.int .i64 x180.From]) rfl rfl rfl rfl rfl (mapcons2 rfl mapnil2) Try.runUnderlying22 Try.sizeOf3 Try.zeroValue3 rfl rfl rfl rfl rfl hS223 ?_
            intro W304 b305 hS306
            have hS308 : St ⟨w, [], φ⟩ φ147 [.row (some ⟨b305, 0, none⟩) 1 3 1 (List.flatMap encI [x180.From]), .row A47 c48 3 1 (List.flatMap encI l46), .row A51 c52 3 1 (List.flatMap encI l50)] W304 := hS306
            refine OKS.both ?_ ?_
            ·refine OKS.append (j := 1) (enc := encI) (xs := l46) (ys := [x180.From]) (zs := x199) rfl rfl rfl rfl rfl Try.underlying22 info3 rfl rfl rfl rfl rfl rfl hS308 rfl rfl rfl (hS308.srcR (j := 0) rfl (by decide) (flatMap_len (f := encI) (sz := 1) (fun _ => rfl) [x180.From])) (fun _ => rfl) (fun _ => rfl) h200 rfl ?_
             intro A309 c310 W311 hS312
             have hS313 : St ⟨w, [], φ⟩ φ147 [.row (some ⟨b305, 0, none⟩) 1 3 1 (List.flatMap encI [x180.From]), .row A309 c310 3 1 (List.flatMap encI x199), .row A51 c52 3 1 (List.flatMap encI l50)] W311 := hS312
             refine OKS.buildSlice (pv := [(0, .int .i64 (w64 (x180.To + 1)))]) (zs := [.int .i64 0]) (cs := [.int .i64 (w64 (x180.To + 1))]) rfl rfl rfl rfl rfl (mapcons2 rfl mapnil2) Try.runUnderlying22 Try.sizeOf3 Try.zeroValue3 rfl rfl rfl rfl rfl hS313 ?_
             intro W314 b315 hS316
             have hS318 : St ⟨w, [], φ⟩ φ147 [.row (some ⟨b315, 0, none⟩) 1 3 1 (List.flatMap encI [w64 (x180.To + 1)]), .row (some ⟨b305, 0, none⟩) 1 3 1 (List.flatMap encI [x180.From]), .row A309 c310 3 1 (List.flatMap encI x199), .row A51 c52 3 1 (List.flatMap encI l50)] W314 := hS316
             refine OKS.append (j := 3) (enc := encI) (xs := l50) (ys := [w64 (x180.To + 1)]) (zs := x212) rfl rfl rfl rfl rfl Try.underlying22 info3 rfl rfl rfl rfl rfl rfl hS318 rfl rfl rfl (hS318.srcR (j := 0) rfl (by decide) (flatMap_len (f := encI) (sz := 1) (fun _ => rfl) [w64 (x180.To + 1)])) (fun _ => rfl) (fun _ => rfl) h213 rfl ?_
             intro A319 c320 W321 hS322
             have hS323 : St ⟨w, [], φ⟩ φ147 [.row (some ⟨b315, 0, none⟩) 1 3 1 (List.flatMap encI [w64 (x180.To + 1)]), .row (some ⟨b305, 0, none⟩) 1 3 1 (List.flatMap encI [x180.From]), .row A309 c310 3 1 (List.flatMap encI x199), .row A319 c320 3 1 (List.flatMap encI x212)] W321 := hS322
             refine OKS.ra rfl rfl rfl rfl rfl rfl ?_
             refine OKS.ra rfl rfl rfl rfl rfl rfl ?_
             refine OKS.e ?_
             cases hm222
             exact thenQ_n ⟨rfl, ⟨φ147, A309, c310, A319, c320, f150, f151, f152, rfl, rfl, f155, f156, f158, (PHeap.Le.refl _), (hS323.pick [2, 3] _ (by decide) rfl)⟩⟩
            ·refine OKS.buildSlice (pv := [(0, .int .i64 (w64 (x180.To + 1)))]) (zs := [.int .i64 0]) (cs := [.int .i64 (w64 (x180.To + 1))]) rfl rfl rfl rfl rfl (mapcons2 rfl mapnil2) Try.runUnderlying22 Try.sizeOf3 Try.zeroValue3 rfl rfl rfl rfl rfl hS308 ?_
             intro W330 b331 hS332
             have hS334 : St ⟨w, [], φ⟩ φ147 [.row (some ⟨b331, 0, none⟩) 1 3 1 (List.flatMap encI [w64 (x180.To + 1)]), .row (some ⟨b305, 0, none⟩) 1 3 1 (List.flatMap encI [x180.From]), .row A47 c48 3 1 (List.flatMap encI l46), .row A51 c52 3 1 (List.flatMap encI l50)] W330 := hS332
             refine OKS.append (j := 2) (enc := encI) (xs := l46) (ys := [x180.From]) (zs := x199) rfl rfl rfl rfl rfl Try.underlying22 info3 rfl rfl rfl rfl rfl rfl hS334 rfl rfl rfl (hS334.srcR (j := 1) rfl (by decide) (flatMap_len (f := encI) (sz := 1) (fun _ => rfl) [x180.From])) (fun _ => rfl) (fun _ => rfl) h200 rfl ?_
             intro A335 c336 W337 hS338
             have hS339 : St ⟨w, [], φ⟩ φ147 [.row (some ⟨b331, 0, none⟩) 1 3 1 (List.flatMap encI [w64 (x180.To + 1)]), .row (some ⟨b305, 0, none⟩) 1 3 1 (List.flatMap encI [x180.From]), .row A335 c336 3 1 (List.flatMap encI x199), .row A51 c52 3 1 (List.flatMap encI l50)] W337 := hS338
             refine OKS.append (j := 3) (enc := encI) (xs := l50) (ys := [w64 (x180.To + 1)]) (zs := x212) rfl rfl rfl rfl rfl Try.underlying22 info3 rfl rfl rfl rfl rfl rfl hS339 rfl rfl rfl (hS339.srcR (j := 0) rfl (by decide) (flatMap_len (f := encI) (sz := 1) (fun _ => rfl) [w64 (x180.To + 1)])) (fun _ => rfl) (fun _ => rfl) h213 rfl ?_
             intro A340 c341 W342 hS343
             have hS344 : St ⟨w, [], φ⟩ φ147 [.row (some ⟨b331, 0, none⟩) 1 3 1 (List.flatMap encI [w64 (x180.To + 1)]), .row (some ⟨b305, 0, none⟩) 1 3 1 (List.flatMap encI [x180.From]), .row A335 c336 3 1 (List.flatMap encI x199), .row A340 c341 3 1 (List.flatMap encI x212)] W342 := hS343
             refine OKS.ra rfl rfl rfl rfl rfl rfl ?_
             refine OKS.ra rfl rfl rfl rfl rfl rfl ?_
             refine OKS.e ?_
             cases hm222
             exact thenQ_n ⟨rfl, ⟨φ147, A335, c336, A340, c341, f150, f151, f152, rfl, rfl, f155, f156, f158, (PHeap.Le.refl _), (hS344.pick [2, 3] _ (by decide) rfl)⟩⟩
           ·refine OKS.buildSlice (pv := [(0, .int .i64 (w64 (x180.To + 1)))]) (zs := [.int .i64 0]) (cs := [.int .i64 (w64 (x180.To + 1))]) rfl rfl rfl rfl rfl (mapcons2 rfl mapnil2) Try.runUnderlying22 Try.sizeOf3 Try.zeroValue3 rfl rfl rfl rfl rfl hS223 ?_
            intro W351 b352 hS353
            have hS355 : St ⟨w, [], φ⟩ φ147 [.row (some ⟨b352, 0, none⟩) 1 3 1 (List.flatMap encI [w64 (x180.To + 1)]), .row A47 c48 3 1 (List.flatMap encI l46), .row A51 c52 3 1 (List.flatMap encI l50)] W351 := hS353
            refine OKS.buildSlice (pv := [(0, .int .i64 x180.From)]) (zs := [.int .i64 0]) (cs := [.int .i64 x180.From]) rfl rfl rfl rfl rfl (mapcons2 rfl mapnil2) Try.runUnderlying22 Try.sizeOf3 Try.zeroValue3 rfl rfl rfl rfl rfl hS355 ?_
            intro W356 b357 hS358
            have hS360 : St ⟨w, [], φ⟩ φ147 [.row (some ⟨b357, 0, none⟩) 1 3 1 (List.flatMap encI [x180.From]), .row (some ⟨b352, 0, none⟩) 1 3 1 (List.flatMap encI [w64 (x180.To + 1)]), .row A47 c48 3 1 (List.flatMap encI l46), .row A51 c52 3 1 (List.flatMap encI l50)] W356 := hS358
            refine OKS.append (j := 2) (enc := encI) (xs := l46) (ys := [x180.From]) (zs := x199) rfl rfl rfl rfl rfl Try.underlying22 info3 rfl rfl rfl rfl rfl rfl hS360 rfl rfl rfl (hS360.srcR (j := 0) rfl (by decide) (flatMap_len (f := encI) (sz := 1) (fun _ => rfl) [x180.From])) (fun _ => rfl) (fun _ => rfl) h200 rfl ?_
            intro A361 c362 W363 hS364
            have hS365 : St ⟨w, [], φ⟩ φ147 [.row (some ⟨b357, 0, none⟩) 1 3 1 (List.flatMap encI [x180.From]), .row (some ⟨b352, 0, none⟩) 1 3 1 (List.flatMap encI [w64 (x180.To + 1)]), .row A361 c362 3 1 (List.flatMap encI x199), .row A51 c52 3 1 (List.flatMap encI l50)] W363 := hS364
            refine OKS.append (j := 3) (enc := encI) (xs := l50) (ys := [w64 (x180.To + 1)]) (zs := x212) rfl rfl rfl rfl rfl Try.underlying22 info3 rfl rfl rfl rfl rfl rfl hS365 rfl rfl rfl (hS365.srcR (j := 1) rfl (by decide) (flatMap_len (f := encI) (sz := 1) (fun _ => rfl) [w64 (x180.To + 1)])) (fun _ => rfl) (fun _ => rfl) h213 rfl ?_
            intro A366 c367 W368 hS369
            have hS370 : St ⟨w, [], φ⟩ φ147 [.row (some ⟨b357, 0, none⟩) 1 3 1 (List.flatMap encI [x180.From]), .row (some ⟨b352, 0, none⟩) 1 3 1 (List.flatMap encI [w64 (x180.To + 1)]), .row A361 c362 3 1 (List.flatMap encI x199), .row A366 c367 3 1 (List.flatMap encI x212)] W368 := hS369
            refine OKS.ra rfl rfl rfl rfl rfl rfl ?_
            refine OKS.ra rfl rfl rfl rfl rfl rfl ?_
            refine OKS.e ?_
            cases hm222
            exact thenQ_n ⟨rfl, ⟨φ147, A361, c362, A366, c367, f150, f151, f152, rfl, rfl, f155, f156, f158, (PHeap.Le.refl _), (hS370.pick [2, 3] _ (by decide) rfl)⟩⟩
         ·rintro σ377 W378 ⟨φ379, A172, c173, A175, c176, f382, f383, f384, f385, f386, f387, f388, f389, le380, hS381⟩
          refine CK.reg (ks := []) (.fl 0 (.fl 1 (.fl 2 (.fl 3 (.fl 4 (.fl 5 (.fl 6 (.fl 7 (.fl 8 (.nil)))))))))) rfl ?_
          refine OKS.rm rfl rfl rfl rfl rfl f387 ?_
          refine OKS.rm rfl rfl rfl rfl rfl f383 ?_
          refine OKS.rm rfl rfl rfl rfl rfl f389 ?_
          have q := bnd hm179
          obtain ⟨x390, h391, hm392⟩ := q
          have h393 := ha1.le le8
          have h394 := h393.le le72
          have h395 := h394.le le148
          have h396 := h395.le le380
          have q := h396.el (fun _ => rfl) (idx_get h391)
          obtain ⟨b397, off398, hA399, hC400⟩ := q
          refine OKS.r rfl rfl rfl rfl (fun _ => Runs.iaI rfl rfl hA399 rfl Try.runUnderlying36 Try.sizeOf121 (idx_lo h391) (idx_hi h391)) ?_
          refine OKS.r rfl rfl rfl rfl (fun _ => Runs.fa rfl rfl Try.runUnderlying121 rfl Try.sizeOf29) ?_
          refine OKS.r rfl rfl rfl rfl (fun _ => Runs.fa rfl rfl Try.runUnderlying29 rfl Try.sizeOf3) ?_
          refine OKS.m rfl rfl rfl rfl (hS381.ldC (f := 3) hC400 (v := .int .i64 x390.Loops.Hi) rfl rfl Try.isAgg3 rfl) rfl ?_
          refine OKS.r rfl rfl rfl rfl (fun _ => Runs.addw rfl rfl rfl) ?_
          refine OKS.ra rfl rfl rfl rfl rfl rfl ?_
          refine OKS.e ?_
          refine blockQ_n ?_
          refine blockQ_n ?_
          exact thenQ_n ⟨rfl, l171, l174, w64 (x54 + x390.Loops.Hi), (Option.some.inj hm392).symm, ⟨φ379, A172, c173, A175, c176, f382, f383, f384, f385, f386, rfl, f388, (le148.trans le380), hS381⟩⟩
        ·have hm408 := hm168; rw [if_neg c169] at hm408; replace c169 := Hid.mk c169
         refine CK.condF (decF c169.out) ?_
         refine CK.seq ?_
         refine CK.reg (ks := []) (.fl 0 (.fl 1 (.nil))) rfl ?_
         refine OKS.r rfl rfl rfl rfl (fun _ => Runs.eql rfl rfl rfl) ?_
         refine OKS.ra rfl rfl rfl rfl rfl rfl ?_
         refine OKS.e ?_
         refine thenQ_n ?_
         by_cases c409 : x93.Kind = 1
         ·have hm410 := hm408; rw [if_pos c409] at hm410; replace c409 := Hid.mk c409
          refine CK.condT (decT c409.out) ?_
          have q := bnd hm410
          obtain ⟨⟨l411, l414⟩, hx418, hm419⟩ := q
          try dsimp only at hm419
          refine CK.cut (fun σ_ w_ => ∃ (φ_ : PHeap) (A412 : Option Addr) (c413 : Nat) (A415 : Option Addr) (c416 : Nat), σ_ 0 = .slice pA0 p0.length pc0 ∧ σ_ 1 = .slice pA1 p1.length pc1 ∧ σ_ 2 = .slice pA2 p2.length pc2 ∧ σ_ 9 = .slice A412 l411.length c413 ∧ σ_ 10 = .slice A415 l414.length c416 ∧ σ_ 11 = .int .i64 x54 ∧ σ_ 12 = .int .i64 (↑k55 : Int) ∧ σ_ 14 = .int .i64 x93.Index ∧ PHeap.Le φ147 φ_ ∧ St ⟨w, [], φ⟩ φ_ [.row A412 c413 3 1 (List.flatMap encI l411), .row A415 c416 3 1 (List.flatMap encI l414)] w_) ?_ ?_
          ·have q := bnd hx418
           obtain ⟨x420, h421, hm460⟩ := q
           have q := bnd hm460
           obtain ⟨x439, h440, hm461⟩ := q
           have q := bnd hm461
           obtain ⟨x452, h453, hm462⟩ := q
           refine CK.anyOrd Try.mixed [3, 3, 3, 3, 3, 1, 3, 2, 0, 3, 3, 3, 3, 3, 2, 2, 0, 3, 3] (.fl 0 (.fl 1 (.fl 2 (.fl 3 (.fl 4 (.fl 5 (.fl 6 (.fl 9 (.fl 10 (.fl 11 (.fl 12 (.fl 13 (.fx 7 (.fx 8 (.fx 14 (.fx 15 (.fx 16 (.fl 17 (.fl 18 (.nil))) (.stop)) (.stop)) (.stop)) (.fx 14 (.fx 8 (.fx 15 (.fx 16 (.fl 17 (.fl 18 (.nil))) (.stop)) (.stop)) (.fx 15 (.fx 8 (.fx 16 (.fl 17 (.fl 18 (.nil))) (.stop)) (.stop)) (.stop))) (.stop))) (.fx 14 (.fx 7 (.fx 8 (.fx 15 (.fx 16 (.fl 17 (.fl 18 (.nil))) (.stop)) (.stop)) (.fx 15 (.fx 8 (.fx 16 (.fl 17 (.fl 18 (.nil))) (.stop)) (.stop)) (.stop))) (.fx 15 (.fx 7 (.fx 8 (.fx 16 (.fl 17 (.fl 18 (.nil))) (.stop)) (.stop)) (.stop)) (.stop))) (.stop))))))))))))))) (by kernel_rfl) ?_
           have hS463 := hS149.drew
           generalize hw_W464 : ({ W146 with drawn := W146.drawn + 1 } : World) = W464 at hS463 ⊢
           refine OKS.rm rfl rfl rfl rfl rfl f153 ?_
           refine OKS.rm rfl rfl rfl rfl rfl f151 ?_
           refine OKS.rm rfl rfl rfl rfl rfl f158 ?_
           have h465 := ha1.le le8
           have h466 := h465.le le72
           have h467 := h466.le le148
           have q := h467.el (fun _ => rfl) (idx_get h421)
           obtain ⟨b468, off469, hA470, hC471⟩ := q
           refine OKS.r rfl rfl rfl rfl (fun _ => Runs.iaI rfl rfl hA470 rfl Try.runUnderlying36 Try.sizeOf121 (idx_lo h421) (idx_hi h421)) ?_
           refine OKS.r rfl rfl rfl rfl (fun _ => Runs.fa rfl rfl Try.runUnderlying121 rfl Try.sizeOf3) ?_
           refine OKS.m rfl rfl rfl rfl (hS463.ldC (f := 1) hC471 (v := .int .i64 x420.To) rfl rfl Try.isAgg3 rfl) rfl ?_
           refine OKS.r rfl rfl rfl rfl (fun _ => Runs.addw rfl rfl rfl) ?_
           refine OKS.rm rfl rfl rfl rfl rfl f154 ?_
           refine OKS.rm rfl rfl rfl rfl rfl f151 ?_
           refine OKS.rm rfl rfl rfl rfl rfl f158 ?_
           have q := h467.el (fun _ => rfl) (idx_get h421)
           obtain ⟨b472, off473, hA474, hC475⟩ := q
           refine OKS.r rfl rfl rfl rfl (fun _ => Runs.iaI rfl rfl hA474 rfl Try.runUnderlying36 Try.sizeOf121 (idx_lo h421) (idx_hi h421)) ?_
           refine OKS.r rfl rfl rfl rfl (fun _ => Runs.fa rfl rfl Try.runUnderlying121 rfl Try.sizeOf3) ?_
           refine OKS.both ?_ ?_
           ·refine OKS.buildSlice (pv := [(0, .int .i64 (w64 (x420.To + 1)))]) (zs := [.int .i64 0]) (cs := [.int .i64 (w64 (x420.To + 1))]) rfl rfl rfl rfl rfl (mapcons2 rfl mapnil2) Try.runUnderlying22 Try.sizeOf3 Try.zeroValue3 rfl rfl rfl rfl rfl hS463 ?_
            intro W476 b477 hS478
            have hS480 : St ⟨w, [], φ⟩ φ147 [.row (some ⟨b477, 0, none⟩) 1 3 1 (List.flatMap encI [w64 (x420.To + 1)]), .row A47 c48 3 1 (List.flatMap encI l46), .row A51 c52 3 1 (List.flatMap encI l50)] W476 := hS478
            refine OKS.both ?_ ?_
            ·refine OKS.append (j := 1) (enc := encI) (xs := l46) (ys := [w64 (x420.To + 1)]) (zs := x439) rfl rfl rfl rfl rfl Try.underlying22 info3 rfl rfl rfl rfl rfl rfl hS480 rfl rfl rfl (hS480.srcR (j := 0) rfl (by decide) (flatMap_len (f := encI) (sz := 1) (fun _ => rfl) [w64 (x420.To + 1)])) (fun _ => rfl) (fun _ => rfl) h440 rfl ?_
             intro A481 c482 W483 hS484
             have hS485 : St ⟨w, [], φ⟩ φ147 [.row (some ⟨b477, 0, none⟩) 1 3 1 (List.flatMap encI [w64 (x420.To + 1)]), .row A481 c482 3 1 (List.flatMap encI x439), .row A51 c52 3 1 (List.flatMap encI l50)] W483 := hS484
             refine OKS.mx2 rfl rfl rfl rfl (hS485.ldC (f := 0) hC475 (v := .int .i64 x420.From) rfl rfl Try.isAgg3 rfl) ?_
             refine OKS.buildSlice (pv := [(0, .int .i64 x420.From)]) (zs := [.int .i64 0]) (cs := [.int .i64 x420.From]) rfl rfl rfl rfl rfl (mapcons2 rfl mapnil2) Try.runUnderlying22 Try.sizeOf3 Try.zeroValue3 rfl rfl rfl rfl rfl hS485 ?_
             intro W486 b487 hS488
             have hS490 : St ⟨w, [], φ⟩ φ147 [.row (some ⟨b487, 0, none⟩) 1 3 1 (List.flatMap encI [x420.From]), .row (some ⟨b477, 0, none⟩) 1 3 1 (List.flatMap encI [w64 (x420.To + 1)]), .row A481 c482 3 1 (List.flatMap encI x439), .row A51 c52 3 1 (List.flatMap encI l50)] W486 := hS488
             refine OKS.append (j := 3) (enc := encI) (xs := l50) (ys := [x420.From]) (zs := x452) rfl rfl rfl rfl rfl Try.underlying22 info3 rfl rfl rfl rfl rfl rfl hS490 rfl rfl rfl (hS490.srcR (j := 0) rfl (by decide) (flatMap_len (f := encI) (sz := 1) (fun _ => rfl) [x420.From])) (fun _ => rfl) (fun _ => rfl) h453 rfl ?_
             intro A491 c492 W493 hS494
             have hS495 : St ⟨w, [], φ⟩ φ147 [.row (some ⟨b487, 0, none⟩) 1 3 1 (List.flatMap encI [x420.From]), .row (some ⟨b477, 0, none⟩) 1 3 1 (List.flatMap encI [w64 (x420.To + 1)]), .row A481 c482 3 1 (List.flatMap encI x439), .row A491 c492 3 1 (List.flatMap encI x452)] W493 := hS494
             refine OKS.ra rfl rfl rfl rfl rfl rfl ?_
             refine OKS.ra rfl rfl rfl rfl rfl rfl ?_
             refine OKS.e ?_
             cases hm462
             exact thenQ_n ⟨rfl, ⟨φ147, A481, c482, A491, c492, f150, f151, f152, rfl, rfl, f155, f156, f158, (PHeap.Le.refl _), (hS495.pick [2, 3] _ (by decide) rfl)⟩⟩
            ·refine OKS.mx2 rfl rfl rfl rfl (hS480.ldC (f := 0) hC475 (v := .int .i64 x420.From) rfl rfl Try.isAgg3 rfl) ?_
             refine OKS.both ?_ ?_
             ·refine OKS.append (j := 1) (enc := encI) (xs := l46) (ys := [w64 (x420.To + 1)]) (zs := x439) rfl rfl rfl rfl rfl Try.underlying22 info3 rfl rfl rfl rfl rfl rfl hS480 rfl rfl rfl (hS480.srcR (j := 0) rfl (by decide) (flatMap_len (f := encI) (sz := 1) (fun _ => rfl) [w64 (x420.To + 1)])) (fun _ => rfl) (fun _ => rfl) h440 rfl ?_
              intro A502 c503 W504 hS505
              have hS506 : St ⟨w, [], φ⟩ φ147 [.row (some ⟨b477, 0, none⟩) 1 3 1 (List.flatMap encI [w64 (x420.To + 1)]), .row A502 c503 3 1 (List.flatMap encI x439), .row A51 c52 3 1 (List.flatMap encI l50)] W504 := hS505
              refine OKS.buildSlice (pv := [(0, .int .i64 x420.From)]) (zs := [.int .i64 0]) (cs := [.int .i64 x420.From]) rfl rfl rfl rfl rfl (mapcons2 rfl mapnil2) Try.runUnderlying22 Try.sizeOf3 Try.zeroValue3 rfl rfl rfl rfl rfl hS506 ?_
              intro W507 b508 hS509
              have hS511 : St ⟨w, [], φ⟩ φ147 [.row (some ⟨b508, 0, none⟩) 1 3 1 (List.flatMap encI [x420.From]), .row (some ⟨b477, 0, none⟩) 1 3 1 (List.flatMap encI [w64 (x420.To + 1)]), .row A502 c503 3 1 (List.flatMap encI x439), .row A51 c52 3 1 (List.flatMap encI l50)] W507 := hS509
              refine OKS.append (j := 3) (enc := encI) (xs := l50) (ys := [x420.From]) (zs := x452) rfl rfl rfl rfl rfl Try.underlying22 info3 rfl rfl rfl rfl rfl rfl hS511 rfl rfl rfl (hS511.srcR (j := 0) rfl (by decide) (flatMap_len (f := encI) (sz := 1) (fun _ => rfl) [x420.From])) (fun _ => rfl) (fun _ => rfl) h453 rfl ?_
              intro A512 c513 W514 hS515
              have hS516 : St ⟨w, [], φ⟩ φ147 [.row (some ⟨b508, 0, none⟩) 1 3 1 (List.flatMap encI [x420.From]), .row (some ⟨b477, 0, none⟩) 1 3 1 (List.flatMap encI [w64 (x420.To + 1)]), .row A502 c503 3 1 (List.flatMap encI x439), .row A512 c513 3 1 (List.flatMap encI x452)] W514 := hS515
              refine OKS.ra rfl rfl rfl rfl rfl rfl ?_
              refine OKS.ra rfl rfl rfl rfl rfl rfl ?_
              refine OKS.e ?_
              cases hm462
              exact thenQ_n ⟨rfl, ⟨φ147, A502, c503, A512, c513, f150, f151, f152, rfl, rfl, f155, f156, f158, (PHeap.Le.refl _), (hS516.pick [2, 3] _ (by decide) rfl)⟩⟩
             ·refine OKS.buildSlice (pv := [(0, .int .i64 x420.From)]) (zs := [.int .i64 0]) (cs := [.int .i64 x420.From]) rfl rfl rfl rfl rfl (mapcons2 rfl mapnil2) Try.runUnderlying22 Try.sizeOf3 Try.zeroValue3 rfl rfl rfl rfl rfl hS480 ?_
              intro W523 b524 hS525
              have hS527 : St ⟨w, [], φ⟩ φ147 [.row (some ⟨b524, 0, none⟩) 1 3 1 (List.flatMap encI [x420.From]), .row (some ⟨b477, 0, none⟩) 1 3 1 (List.flatMap encI [w64 (x420.To + 1)]), .row A47 c48 3 1 (List.flatMap encI l46), .row A51 c52 3 1 (List.flatMap encI l50)] W523 := hS525
              refine OKS.append (j := 2) (enc := encI) (xs := l46) (ys := [w64 (x420.To + 1)]) (zs := x439) rfl rfl rfl rfl rfl Try.underlying22 info3 rfl rfl rfl rfl rfl rfl hS527 rfl rfl rfl (hS527.srcR (j := 1) rfl (by decide) (flatMap_len (f := encI) (sz := 1) (fun _ => rfl) [w64 (x420.To + 1)])) (fun _ => rfl) (fun _ => rfl) h440 rfl ?_
              intro A528 c529 W530 hS531
              have hS532 : St ⟨w, [], φ⟩ φ147 [.row (some ⟨b524, 0, none⟩) 1 3 1 (List.flatMap encI [x420.From]), .row (some ⟨b477, 0, none⟩) 1 3 1 (List.flatMap encI [w64 (x420.To + 1)]), .row A528 c529 3 1 (List.flatMap encI x439), .row A51 c52 3 1 (List.flatMap encI l50)] W530 := hS531
              refine OKS.append (j := 3) (enc := encI) (xs := l50) (ys := [x420.From]) (zs := x452) rfl rfl rfl rfl rfl Try.underlying22 info3 rfl rfl rfl rfl rfl rfl hS532 rfl rfl rfl (hS532.srcR (j := 0) rfl (by decide) (flatMap_len (f := encI) (sz := 1) (fun _ => rfl) [x420.From])) (fun _ => rfl) (fun _ => rfl) h453 rfl ?_
              intro A533 c534 W535 hS536
              have hS537 : St ⟨w, [], φ⟩ φ147 [.row (some ⟨b524, 0, none⟩) 1 3 1 (List.flatMap encI [x420.From]), .row (some ⟨b477, 0, none⟩) 1 3 1 (List.flatMap encI [w64 (x420.To + 1)]), .row A528 c529 3 1 (List.flatMap encI x439), .row A533 c534 3 1 (List.flatMap encI x452)] W535 := hS536
              refine OKS.ra rfl rfl rfl rfl rfl rfl ?_
              refine OKS.ra rfl rfl rfl rfl rfl rfl ?_
              refine OKS.e ?_
              cases hm462
              exact thenQ_n ⟨rfl, ⟨φ147, A528, c529, A533, c534, f150, f151, f152, rfl, rfl, f155, f156, f158, (PHeap.Le.refl _), (hS537.pick [2, 3] _ (by decide) rfl)⟩⟩
           ·refine OKS.mx2 rfl rfl rfl rfl (hS463.ldC (f := 0) hC475 (v := .int .i64 x420.From) rfl rfl Try.isAgg3 rfl) ?_
            refine OKS.both ?_ ?_
            ·refine OKS.buildSlice (pv := [(0, .int .i64 (w64 (x420.To + 1)))]) (zs := [.int .i64 0]) (cs := [.int .i64 (w64 (x420.To + 1))]) rfl rfl rfl rfl rfl (mapcons2 rfl mapnil2) Try.runUnderlying22 Try.sizeOf3 Try.zeroValue3 rfl rfl rfl rfl rfl hS463 ?_
             intro W544 b545 hS546
             have hS548 : St ⟨w, [], φ⟩ φ147 [.row (some ⟨b545, 0, none⟩) 1 3 1 (List.flatMap encI [w64 (x420.To + 1)]), .row A47 c48 3 1 (List.flatMap encI l46), .row A51 c52 3 1 (List.flatMap encI l50)] W544 := hS546
             refine OKS.both ?_ ?_
             ·refine OKS.append (j := 1) (enc := encI) (xs := l46) (ys := [w64 (x420.To + 1)]) (zs := x439) rfl rfl rfl rfl rfl Try.underlying22 info3 rfl rfl rfl rfl rfl rfl hS548 rfl rfl rfl (hS548.srcR (j := 0) rfl (by decide) (flatMap_len (f := encI) (sz := 1) (fun _ => rfl) [w64 (x420.To + 1)])) (fun _ => rfl) (fun _ => rfl) h440 rfl ?_
              intro A549 c550 W551 hS552
              have hS553 : St ⟨w, [], φ⟩ φ147 [.row (some ⟨b545, 0, none⟩) 1 3 1 (List.flatMap encI [w64 (x420.To + 1)]), .row A549 c550 3 1 (List.flatMap encI x439), .row A51 c52 3 1 (List.flatMap encI l50)] W551 := hS552
              refine OKS.buildSlice (pv := [(0, .int .i64 x420.From)]) (zs := [.int .i64 0]) (cs := [.int .i64 x420.From]) rfl rfl rfl rfl rfl (mapcons2 rfl mapnil2) Try.runUnderlying22 Try.sizeOf3 Try.zeroValue3 rfl rfl rfl rfl rfl hS553 ?_
              intro W554 b555 hS556
              have hS558 : St ⟨w, [], φ⟩ φ147 [.row (some ⟨b555, 0, none⟩) 1 3 1 (List.flatMap encI [x420.From]), .row (some ⟨b545, 0, none⟩) 1 3 1 (List.flatMap encI [w64 (x420.To + 1)]), .row A549 c550 3 1 (List.flatMap encI x439), .row A51 c52 3 1 (List.flatMap encI l50)] W554 := hS556
              refine OKS.append (j := 3) (enc := encI) (xs := l50) (ys := [x420.From]) (zs := x452) rfl rfl rfl rfl rfl Try.underlying22 info3 rfl rfl rfl rfl rfl rfl hS558 rfl rfl rfl (hS558.srcR (j := 0) rfl (by decide) (flatMap_len (f := encI) (sz := 1) (fun _ => rfl) [x420.From])) (fun _ => rfl) (fun _ => rfl) h453 rfl ?_
              intro A559 c560 W561 hS562
              have hS563 : St ⟨w, [], φ⟩ φ147 [.row (some ⟨b555, 0, none⟩) 1 3 1 (List.flatMap encI [x420.From]), .row (some ⟨b545, 0, none⟩) 1 3 1 (List.flatMap encI [w64 (x420.To + 1)]), .row A549 c550 3 1 (List.flatMap encI x439), .row A559 c560 3 1 (List.flatMap encI x452)] W561 := hS562
              refine OKS.ra rfl rfl rfl rfl rfl rfl ?_
              refine OKS.ra rfl rfl rfl rfl rfl rfl ?_
              refine OKS.e ?_
              cases hm462
              exact thenQ_n ⟨rfl, ⟨φ147, A549, c550, A559, c560, f150, f151, f152, rfl, rfl, f155, f156, f158, (PHeap.Le.refl _), (hS563.pick [2, 3] _ (by decide) rfl)⟩⟩
             ·refine OKS.buildSlice (pv := [(0, .int .i64 x420.From)]) (zs := [.int .i64 0]) (cs := [.int .i64 x420.From]) rfl rfl rfl rfl rfl (mapcons2 rfl mapnil2) Try.runUnderlying22 Try.sizeOf3 Try.zeroValue3 rfl rfl rfl rfl rfl hS548 ?_
              intro W570 b571 hS572
              have hS574 : St ⟨w, [], φ⟩ φ147 [.row (some ⟨b571, 0, none⟩) 1 3 1 (List.flatMap encI [x420.From]), .row (some ⟨b545, 0, none⟩) 1 3 1 (List.flatMap encI [w64 (x420.To + 1)]), .row A47 c48 3 1 (List.flatMap encI l46), .row A51 c52 3 1 (List.flatMap encI l50)] W570 := hS572
              refine OKS.append (j := 2) (enc := encI) (xs := l46) (ys := [w64 (x420.To + 1)]) (zs := x439) rfl rfl rfl rfl rfl Try.underlying22 info3 rfl rfl rfl rfl rfl rfl hS574 rfl rfl rfl (hS574.srcR (j := 1) rfl (by decide) (flatMap_len (f := encI) (sz := 1) (fun _ => rfl) [w64 (x420.To + 1)])) (fun _ => rfl) (fun _ => rfl) h440 rfl ?_
              intro A575 c576 W577 hS578
              have hS579 : St ⟨w, [], φ⟩ φ147 [.row (some ⟨b571, 0, none⟩) 1 3 1 (List.flatMap encI [x420.From]), .row (some ⟨b545, 0, none⟩) 1 3 1 (List.flatMap encI [w64 (x420.To + 1)]), .row A575 c576 3 1 (List.flatMap encI x439), .row A51 c52 3 1 (List.flatMap encI l50)] W577 := hS578
              refine OKS.append (j := 3) (enc := encI) (xs := l50) (ys := [x420.From]) (zs := x452) rfl rfl rfl rfl rfl Try.underlying22 info3 rfl rfl rfl rfl rfl rfl hS579 rfl rfl rfl (hS579.srcR (j := 0) rfl (by decide) (flatMap_len (f := encI) (sz := 1) (fun _ => rfl) [x420.From])) (fun _ => rfl) (fun _ => rfl) h453 rfl ?_
              intro A580 c581 W582 hS583
              have hS584 : St ⟨w, [], φ⟩ φ147 [.row (some ⟨b571, 0, none⟩) 1 3 1 (List.flatMap encI [x420.From]), .row (some ⟨b545, 0, none⟩) 1 3 1 (List.flatMap encI [w64 (x420.To + 1)]), .row A575 c576 3 1 (List.flatMap encI x439), .row A580 c581 3 1 (List.flatMap encI x452)] W582 := hS583
              refine OKS.ra rfl rfl rfl rfl rfl rfl ?_
              refine OKS.ra rfl rfl rfl rfl rfl rfl ?_
              refine OKS.e ?_
              cases hm462
              exact thenQ_n ⟨rfl, ⟨φ147, A575, c576, A580, c581, f150, f151, f152, rfl, rfl, f155, f156, f158, (PHeap.Le.refl _), (hS584.pick [2, 3] _ (by decide) rfl)⟩⟩
            ·refine OKS.buildSlice (pv := [(0, .int .i64 x420.From)]) (zs := [.int .i64 0]) (cs := [.int .i64 x420.From]) rfl rfl rfl rfl rfl (mapcons2 rfl mapnil2) Try.runUnderlying22 Try.sizeOf3 Try.zeroValue3 rfl rfl rfl rfl rfl hS463 ?_
             intro W591 b592 hS593
             have hS595 : St ⟨w, [], φ⟩ φ147 [.row (some ⟨b592, 0, none⟩) 1 3 1 (List.flatMap encI [x420.From]), .row A47 c48 3 1 (List.flatMap encI l46), .row A51 c52 3 1 (List.flatMap encI l50)] W591 := hS593
             refine OKS.buildSlice (pv := [(0, .int .i64 (w64 (x420.To + 1)))]) (zs := [.int .i64 0]) (cs := [.int .i64 (w64 (x420.To + 1))]) rfl rfl rfl rfl rfl (mapcons2 rfl mapnil2) Try.runUnderlying22 Try.sizeOf3 Try.zeroValue3 rfl rfl rfl rfl rfl hS595 ?_
             intro W596 b597 hS598
             have hS600 : St ⟨w, [], φ⟩ φ147 [.row (some ⟨b597, 0, none⟩) 1 3 1 (List.flatMap encI [w64 (x420.To + 1)]), .row (some ⟨b592, 0, none⟩) 1 3 1 (List.flatMap encI [x420.From]), .row A47 c48 3 1 (List.flatMap encI l46), .row A51 c52 3 1 (List.flatMap encI l50)] W596 := hS598
             refine OKS.append (j := 2) (enc := encI) (xs := l46) (ys := [w64 (x420.To + 1)]) (zs := x439) rfl rfl rfl rfl rfl Try.underlying22 info3 rfl rfl rfl rfl rfl rfl hS600 rfl rfl rfl (hS600.srcR (j := 0) rfl (by decide) (flatMap_len (f := encI) (sz := 1) (fun _ => rfl) [w64 (x420.To + 1)])) (fun _ => rfl) (fun _ => rfl) h440 rfl ?_
             intro A601 c602 W603 hS604
             have hS605 : St ⟨w, [], φ⟩ φ147 [.row (some ⟨b597, 0, none⟩) 1 3 1 (List.flatMap encI [w64 (x420.To + 1)]), .row (some ⟨b592, 0, none⟩) 1 3 1 (List.flatMap encI [x420.From]), .row A601 c602 3 1 (List.flatMap encI x439), .row A51 c52 3 1 (List.flatMap encI l50)] W603 := hS604
             refine OKS.append (j := 3) (enc := encI) (xs := l50) (ys := [x420.From]) (zs := x452) rfl rfl rfl rfl rfl Try.underlying22 info3 rfl rfl rfl rfl rfl rfl hS605 rfl rfl rfl (hS605.srcR (j := 1) rfl (by decide) (flatMap_len (f := encI) (sz := 1) (fun _ => rfl) [x420.From])) (fun _ => rfl) (fun _ => rfl) h453 rfl ?_
             intro A606 c607 W608 hS609
             have hS610 : St ⟨w, [], φ⟩ φ147 [.row (some ⟨b597, 0, none⟩) 1 3 1 (List.flatMap encI [w64 (x420.To + 1)]), .row (some ⟨b592, 0, none⟩) 1 3 1 (List.flatMap encI [x420.From]), .row A601 c602 3 1 (List.flatMap encI x439), .row A606 c607 3 1 (List.flatMap encI x452)] W608 := hS609
             refine OKS.ra rfl rfl rfl rfl rfl rfl ?_
             refine OKS.ra rfl rfl rfl rfl rfl rfl ?_
             refine OKS.e ?_
             cases hm462
             exact thenQ_n ⟨rfl, ⟨φ147, A601, c602, A606, c607, f150, f151, f152, rfl, rfl, f155, f156, f158, (PHeap.Le.refl _), (hS610.pick [2, 3] _ (by decide) rfl)⟩⟩
          ·rintro σ617 W618 ⟨φ619, A412, c413, A415, c416, f622, f623, f624, f625, f626, f627, f628, f629, le620, hS621⟩
           refine CK.reg (ks := []) (.fl 0 (.fl 1 (.fl 2 (.fl 3 (.fl 4 (.fl 5 (.fl 6 (.fl 7 (.fl 8 (.nil)))))))))) rfl ?_
           refine OKS.rm rfl rfl rfl rfl rfl f627 ?_
           refine OKS.rm rfl rfl rfl rfl rfl f623 ?_
           refine OKS.rm rfl rfl rfl rfl rfl f629 ?_
           have q := bnd hm419
           obtain ⟨x630, h631, hm632⟩ := q
           have h633 := ha1.le le8
           have h634 := h633.le le72
           have h635 := h634.le le148
           have h636 := h635.le le620
           have q := h636.el (fun _ => rfl) (idx_get h631)
           obtain ⟨b637, off638, hA639, hC640⟩ := q
           refine OKS.r rfl rfl rfl rfl (fun _ => Runs.iaI rfl rfl hA639 rfl Try.runUnderlying36 Try.sizeOf121 (idx_lo h631) (idx_hi h631)) ?_
           refine OKS.r rfl rfl rfl rfl (fun _ => Runs.fa rfl rfl Try.runUnderlying121 rfl Try.sizeOf29) ?_
           refine OKS.r rfl rfl rfl rfl (fun _ => Runs.fa rfl rfl Try.runUnderlying29 rfl Try.sizeOf3) ?_
           refine OKS.m rfl rfl rfl rfl (hS621.ldC (f := 2) hC640 (v := .int .i64 x630.Loops.Lo) rfl rfl Try.isAgg3 rfl) rfl ?_
           refine OKS.r rfl rfl rfl rfl (fun _ => Runs.subw rfl rfl rfl) ?_
           refine OKS.ra rfl rfl rfl rfl rfl rfl ?_
           refine OKS.e ?_
           refine blockQ_n ?_
           refine blockQ_n ?_
           exact thenQ_n ⟨rfl, l411, l414, w64 (x54 - x630.Loops.Lo), (Option.some.inj hm632).symm, ⟨φ619, A412, c413, A415, c416, f622, f623, f624, f625, f626, rfl, f628, (le148.trans le620), hS621⟩⟩
         ·have hm648 := hm408; rw [if_neg c409] at hm648; replace c409 := Hid.mk c409
          refine CK.condF (decF c409.out) ?_
          refine CK.seq ?_
          refine CK.reg (ks := []) (.fl 0 (.fl 1 (.nil))) rfl ?_
          refine OKS.r rfl rfl rfl rfl (fun _ => Runs.eql rfl rfl rfl) ?_
          refine OKS.ra rfl rfl rfl rfl rfl rfl ?_
          refine OKS.e ?_
          refine thenQ_n ?_
          by_cases c649 : x93.Kind = 2
          ·have hm650 := hm648; rw [if_pos c649] at hm650; replace c649 := Hid.mk c649
           refine CK.condT (decT c649.out) ?_
           refine CK.seq ?_
           refine CK.reg (ks := []) (.fl 0 (.fl 1 (.fx 2 (.fx 3 (.fl 4 (.fl 5 (.fl 6 (.fx 7 (.fx 8 (.fl 9 (.fl 10 (.nil))) .stop) .stop)))) .stop) .stop))) rfl ?_
           refine OKS.rm rfl rfl rfl rfl rfl f153 ?_
           refine OKS.rm rfl rfl rfl rfl rfl f158 ?_
           refine OKS.buildSlice (pv := [(0, .int .i64 x93.Index)]) (zs := [.int .i64 0]) (cs := [.int .i64 x93.Index]) rfl rfl rfl rfl rfl (mapcons2 rfl mapnil2) Try.runUnderlying22 Try.sizeOf3 Try.zeroValue3 rfl rfl rfl rfl rfl hS149 ?_
           intro W651 b652 hS653
           have hS655 : St ⟨w, [], φ⟩ φ147 [.row (some ⟨b652, 0, none⟩) 1 3 1 (List.flatMap encI [x93.Index]), .row A47 c48 3 1 (List.flatMap encI l46), .row A51 c52 3 1 (List.flatMap encI l50)] W651 := hS653
           have q := bnd hm650
           obtain ⟨x656, h657, hm658⟩ := q
           refine OKS.append (j := 1) (enc := encI) (xs := l46) (ys := [x93.Index]) (zs := x656) rfl rfl rfl rfl rfl Try.underlying22 info3 rfl rfl rfl rfl rfl rfl hS655 rfl rfl rfl (hS655.srcR (j := 0) rfl (by decide) (flatMap_len (f := encI) (sz := 1) (fun _ => rfl) [x93.Index])) (fun _ => rfl) (fun _ => rfl) h657 rfl ?_
           intro A659 c660 W661 hS662
           have hS663 : St ⟨w, [], φ⟩ φ147 [.row (some ⟨b652, 0, none⟩) 1 3 1 (List.flatMap encI [x93.Index]), .row A659 c660 3 1 (List.flatMap encI x656), .row A51 c52 3 1 (List.flatMap encI l50)] W661 := hS662
           refine OKS.rm rfl rfl rfl rfl rfl f154 ?_
           refine OKS.rm rfl rfl rfl rfl rfl f158 ?_
           refine OKS.r rfl rfl rfl rfl (fun _ => Runs.addw rfl rfl rfl) ?_
           refine OKS.buildSlice (pv := [(0, .int .i64 (w64 (x93.Index + 1)))]) (zs := [.int .i64 0]) (cs := [.int .i64 (w64 (x93.Index + 1))]) rfl rfl rfl rfl rfl (mapcons2 rfl mapnil2) Try.runUnderlying22 Try.sizeOf3 Try.zeroValue3 rfl rfl rfl rfl rfl hS663 ?_
           intro W664 b665 hS666
           have hS668 : St ⟨w, [], φ⟩ φ147 [.row (some ⟨b665, 0, none⟩) 1 3 1 (List.flatMap encI [w64 (x93.Index + 1)]), .row (some ⟨b652, 0, none⟩) 1 3 1 (List.flatMap encI [x93.Index]), .row A659 c660 3 1 (List.flatMap encI x656), .row A51 c52 3 1 (List.flatMap encI l50)] W664 := hS666
           have q := bnd hm658
           obtain ⟨x669, h670, hm671⟩ := q
           refine OKS.append (j := 3) (enc := encI) (xs := l50) (ys := [w64 (x93.Index + 1)]) (zs := x669) rfl rfl rfl rfl rfl Try.underlying22 info3 rfl rfl rfl rfl rfl rfl hS668 rfl rfl rfl (hS668.srcR (j := 0) rfl (by decide) (flatMap_len (f := encI) (sz := 1) (fun _ => rfl) [w64 (x93.Index + 1)])) (fun _ => rfl) (fun _ => rfl) h670 rfl ?_
           intro A672 c673 W674 hS675
           have hS676 : St ⟨w, [], φ⟩ φ147 [.row (some ⟨b665, 0, none⟩) 1 3 1 (List.flatMap encI [w64 (x93.Index + 1)]), .row (some ⟨b652, 0, none⟩) 1 3 1 (List.flatMap encI [x93.Index]), .row A659 c660 3 1 (List.flatMap encI x656), .row A672 c673 3 1 (List.flatMap encI x669)] W674 := hS675
           refine OKS.ra rfl rfl rfl rfl rfl rfl ?_
           refine OKS.ra rfl rfl rfl rfl rfl rfl ?_
           refine OKS.e ?_
           refine thenQ_n ?_
           refine CK.reg (ks := []) (.fl 0 (.fl 1 (.fl 2 (.nil)))) rfl ?_
           refine OKS.rm rfl rfl rfl rfl rfl f155 ?_
           refine OKS.r rfl rfl rfl rfl (fun _ => Runs.addw rfl rfl rfl) ?_
           refine OKS.ra rfl rfl rfl rfl rfl rfl ?_
           refine OKS.e ?_
           refine blockQ_n ?_
           refine blockQ_n ?_
           exact thenQ_n ⟨rfl, x656, x669, w64 (x54 + 9), (Option.some.inj hm671).symm, ⟨φ147, A659, c660, A672, c673, f150, f151, f152, rfl, rfl, rfl, f156, le148, (hS676.pick [2, 3] _ (by decide) rfl)⟩⟩
          ·have hm684 := hm648; rw [if_neg c649] at hm684; replace c649 := Hid.mk c649
           refine CK.condF (decF c649.out) ?_
           refine CK.seq ?_
           refine CK.reg (ks := []) (.fl 0 (.fl 1 (.fl 2 (.fx 3 (.fx 4 (.fl 5 (.fl 6 (.fx 7 (.fx 8 (.fl 9 (.fl 10 (.nil))) .stop) .stop))) .stop) .stop)))) rfl ?_
           refine OKS.rm rfl rfl rfl rfl rfl f153 ?_
           refine OKS.rm rfl rfl rfl rfl rfl f158 ?_
           refine OKS.r rfl rfl rfl rfl (fun _ => Runs.addw rfl rfl rfl) ?_
           refine OKS.buildSlice (pv := [(0, .int .i64 (w64 (x93.Index + 1)))]) (zs := [.int .i64 0]) (cs := [.int .i64 (w64 (x93.Index + 1))]) rfl rfl rfl rfl rfl (mapcons2 rfl mapnil2) Try.runUnderlying22 Try.sizeOf3 Try.zeroValue3 rfl rfl rfl rfl rfl hS149 ?_
           intro W685 b686 hS687
           have hS689 : St ⟨w, [], φ⟩ φ147 [.row (some ⟨b686, 0, none⟩) 1 3 1 (List.flatMap encI [w64 (x93.Index + 1)]), .row A47 c48 3 1 (List.flatMap encI l46), .row A51 c52 3 1 (List.flatMap encI l50)] W685 := hS687
           have q := bnd hm684
           obtain ⟨x690, h691, hm692⟩ := q
           refine OKS.append (j := 1) (enc := encI) (xs := l46) (ys := [w64 (x93.Index + 1)]) (zs := x690) rfl rfl rfl rfl rfl Try.underlying22 info3 rfl rfl rfl rfl rfl rfl hS689 rfl rfl rfl (hS689.srcR (j := 0) rfl (by decide) (flatMap_len (f := encI) (sz := 1) (fun _ => rfl) [w64 (x93.Index + 1)])) (fun _ => rfl) (fun _ => rfl) h691 rfl ?_
           intro A693 c694 W695 hS696
           have hS697 : St ⟨w, [], φ⟩ φ147 [.row (some ⟨b686, 0, none⟩) 1 3 1 (List.flatMap encI [w64 (x93.Index + 1)]), .row A693 c694 3 1 (List.flatMap encI x690), .row A51 c52 3 1 (List.flatMap encI l50)] W695 := hS696
           refine OKS.rm rfl rfl rfl rfl rfl f154 ?_
           refine OKS.rm rfl rfl rfl rfl rfl f158 ?_
           refine OKS.buildSlice (pv := [(0, .int .i64 x93.Index)]) (zs := [.int .i64 0]) (cs := [.int .i64 x93.Index]) rfl rfl rfl rfl rfl (mapcons2 rfl mapnil2) Try.runUnderlying22 Try.sizeOf3 Try.zeroValue3 rfl rfl rfl rfl rfl hS697 ?_
           intro W698 b699 hS700
           have hS702 : St ⟨w, [], φ⟩ φ147 [.row (some ⟨b699, 0, none⟩) 1 3 1 (List.flatMap encI [x93.Index]), .row (some ⟨b686, 0, none⟩) 1 3 1 (List.flatMap encI [w64 (x93.Index + 1)]), .row A693 c694 3 1 (List.flatMap encI x690), .row A51 c52 3 1 (List.flatMap encI l50)] W698 := hS700
           have q := bnd hm692
           obtain ⟨x703, h704, hm705⟩ := q
           refine OKS.append (j := 3) (enc := encI) (xs := l50) (ys := [x93.Index]) (zs := x703) rfl rfl rfl rfl rfl Try.underlying22 info3 rfl rfl rfl rfl rfl rfl hS702 rfl rfl rfl (hS702.srcR (j := 0) rfl (by decide) (flatMap_len (f := encI) (sz := 1) (fun _ => rfl) [x93.Index])) (fun _ => rfl) (fun _ => rfl) h704 rfl ?_
           intro A706 c707 W708 hS709
           have hS710 : St ⟨w, [], φ⟩ φ147 [.row (some ⟨b699, 0, none⟩) 1 3 1 (List.flatMap encI [x93.Index]), .row (some ⟨b686, 0, none⟩) 1 3 1 (List.flatMap encI [w64 (x93.Index + 1)]), .row A693 c694 3 1 (List.flatMap encI x690), .row A706 c707 3 1 (List.flatMap encI x703)] W708 := hS709
           refine OKS.ra rfl rfl rfl rfl rfl rfl ?_
           refine OKS.ra rfl rfl rfl rfl rfl rfl ?_
           refine OKS.e ?_
           refine thenQ_n ?_
           refine CK.seq ?_
           refine CK.reg (ks := []) (.fl 0 (.fl 1 (.nil))) rfl ?_
           refine OKS.rm rfl rfl rfl rfl rfl f157 ?_
           refine OKS.r rfl rfl rfl rfl (fun _ => Runs.eql rfl rfl rfl) ?_
           refine OKS.e ?_
           refine thenQ_n ?_
           by_cases c711 : x93.Kind = 4
           ·have hm712 := hm705; rw [if_pos c711] at hm712; replace c711 := Hid.mk c711
            refine CK.condT (decT c711.out) ?_
            refine CK.reg (ks := []) (.fl 0 (.fl 1 (.fl 2 (.fl 3 (.fl 4 (.fl 5 (.fl 6 (.nil)))))))) rfl ?_
            refine OKS.rm rfl rfl rfl rfl rfl f155 ?_
            refine OKS.rm rfl rfl rfl rfl rfl f150 ?_
            refine OKS.rm rfl rfl rfl rfl rfl f158 ?_
            have q := bnd hm712
            obtain ⟨x713, h714, hm715⟩ := q
            have h716 := ha0.le le8
            have h717 := h716.le le72
            have h718 := h717.le le148
            have q := h718.el (fun _ => rfl) (idx_get h714)
            obtain ⟨b719, off720, hA721, hC722⟩ := q
            refine OKS.r rfl rfl rfl rfl (fun _ => Runs.iaI rfl rfl hA721 rfl Try.runUnderlying22 Try.sizeOf3 (idx_lo h714) (idx_hi h714)) ?_
            refine OKS.m rfl rfl rfl rfl (hS710.ldC (f := 0) hC722 (v := .int .i64 x713) rfl rfl Try.isAgg3 rfl) rfl ?_
            refine OKS.r rfl rfl rfl rfl (fun _ => Runs.subw rfl rfl rfl) ?_
            refine OKS.ra rfl rfl rfl rfl rfl rfl ?_
            refine OKS.e ?_
            refine blockQ_n ?_
            refine blockQ_n ?_
            exact thenQ_n ⟨rfl, x690, x703, w64 (x54 - x713), (Option.some.inj hm715).symm, ⟨φ147, A693, c694, A706, c707, f150, f151, f152, rfl, rfl, rfl, f156, le148, (hS710.pick [2, 3] _ (by decide) rfl)⟩⟩
           ·have hm730 := hm705; rw [if_neg c711] at hm730; replace c711 := Hid.mk c711
            refine CK.condF (decF c711.out) ?_
            refine CK.skip ?_
            refine blockQ_n ?_
            refine blockQ_n ?_
            exact thenQ_n ⟨rfl, x690, x703, x54, (Option.some.inj hm730).symm, ⟨φ147, A693, c694, A706, c707, f150, f151, f152, rfl, rfl, f155, f156, le148, (hS710.pick [2, 3] _ (by decide) rfl)⟩⟩
     ·rintro σ738 W739 ⟨l82, l85, x88, er740, ⟨φ741, A83, c84, A86, c87, f744, f745, f746, f747, f748, f749, f750, le742, hS743⟩⟩
      have hm751 := jn_inl hx67 hx90 er740
      try dsimp only at hm751
      refine CK.reg (ks := []) (.fl 0 (.fl 1 (.fl 2 (.nil)))) rfl ?_
      refine OKS.rm rfl rfl rfl rfl rfl f750 ?_
      refine OKS.r rfl rfl rfl rfl (fun _ => Runs.to (Runs.addw rfl rfl rfl) (congrArg (Value.int .i64) hi81.out)) ?_
      refine OKS.ra rfl rfl rfl rfl rfl rfl ?_
      refine OKS.e ?_
      obtain rfl := Option.some.inj hm751
      exact thenQ_n ⟨rfl, _, rfl, ⟨φ741, A83, c84, A86, c87, rfl, f744, f745, f746, f747, f748, f749, (le72.trans le742), hS743⟩⟩
    ·rintro ⟨y763, y764, y765⟩ σ759 W760 ⟨φ770, A766, c767, A768, c769, fi762, f773, f774, f775, f776, f777, f778, le771, hS772⟩ hb761
     have hm779 := jn_inl hm18 hX57 hb761
     try dsimp only at hm779
     have c780 : Hid (¬ ((↑(((↑p2.length : Int) : Int) - 0).toNat : Int) < (↑p2.length : Int))) := Hid.mk (lp_end0)
     refine CK.seq ?_
     refine CK.seq ?_
     refine CK.reg (ks := []) (.fl 0 (.fl 1 (.fl 2 (.fl 3 (.nil))))) rfl ?_
     refine OKS.rm rfl rfl rfl rfl rfl fi762 ?_
     refine OKS.rm rfl rfl rfl rfl rfl f775 ?_
     refine OKS.r rfl rfl rfl rfl (fun _ => Runs.len rfl rfl Try.runUnderlying45) ?_
     refine OKS.r rfl rfl rfl rfl (fun _ => Runs.lss rfl rfl rfl) ?_
     refine OKS.e ?_
     refine thenQ_n ?_
     refine CK.condF (decF c780.out) ?_
     refine CK.exit ?_
     refine thenQ_e ?_
     refine thenQ_e ?_
     refine blockQ_h ?_
     refine thenQ_n ?_
     refine CK.seq ?_
     refine CK.seq ?_
     refine CK.reg (ks := []) (.fl 0 (.nil)) rfl ?_
     refine OKS.ra rfl rfl rfl rfl rfl rfl ?_
     refine OKS.e ?_
     refine thenQ_n ?_
     refine CK.block ?_
     have q := jn_some hm779
     obtain ⟨r784, hX785⟩ := q
     have q := forR_le hX785
     obtain ⟨hle786, hf787⟩ := q
     replace hle786 := Hid.mk hle786
     refine CK.forN (fun k783 _ σ_ w_ => ∃ (φ_ : PHeap), σ_ 15 = .int .i64 (↑k783 : Int) ∧ σ_ 2 = .slice pA2 p2.length pc2 ∧ σ_ 9 = .slice A766 y763.length c767 ∧ σ_ 10 = .slice A768 y764.length c769 ∧ σ_ 11 = .int .i64 y765 ∧ PHeap.Le φ770 φ_ ∧ St ⟨w, [], φ⟩ φ_ [.row A766 c767 3 1 (List.flatMap encI y763), .row A768 c769 3 1 (List.flatMap encI y764)] w_) hf787 ?_ ?_ ?_
     ·exact ⟨φ770, rfl, f775, f776, f777, f778, (PHeap.Le.refl _), hS772⟩
     ·rintro k783 ⟨⟩ xx790 σ788 W789 hk793 ⟨φ795, fi794, f798, f799, f800, f801, le796, hS797⟩ hx791 hb792
      try dsimp only at hx791
      have c802 : Hid ((↑k783 : Int) < (↑p2.length : Int)) := Hid.mk (lp_lt0 hk793)
      replace hk793 := Hid.mk hk793
      have hi803 : Hid (w64 ((↑k783 : Int) + 1) = (↑(k783 + 1) : Int)) := Hid.mk (by have h1 := hle786.out; have h2 := c802.out; rw [w64_in] <;> omega)
      refine CK.seq ?_
      refine CK.seq ?_
      refine CK.reg (ks := []) (.fl 0 (.fl 1 (.fl 2 (.fl 3 (.nil))))) rfl ?_
      refine OKS.rm rfl rfl rfl rfl rfl fi794 ?_
      refine OKS.rm rfl rfl rfl rfl rfl f798 ?_
      refine OKS.r rfl rfl rfl rfl (fun _ => Runs.len rfl rfl Try.runUnderlying45) ?_
      refine OKS.r rfl rfl rfl rfl (fun _ => Runs.lss rfl rfl rfl) ?_
      refine OKS.e ?_
      refine thenQ_n ?_
      refine CK.condT (decT c802.out) ?_
      refine CK.skip ?_
      refine thenQ_n ?_
      refine CK.seq ?_
      refine CK.block ?_
      refine CK.seq ?_
      refine CK.reg (ks := []) (.fl 0 (.nil)) rfl ?_
      refine OKS.ra rfl rfl rfl rfl rfl rfl ?_
      refine OKS.e ?_
      refine thenQ_n ?_
      refine CK.seq ?_
      refine CK.seq ?_
      refine CK.reg (ks := []) (.fl 0 (.fl 1 (.fl 2 (.fl 3 (.fl 4 (.nil)))))) rfl ?_
      refine OKS.rm rfl rfl rfl rfl rfl fi794 ?_
      refine OKS.r rfl rfl rfl rfl (fun _ => Runs.to (Runs.addw rfl rfl rfl) (congrArg (Value.int .i64) hi803.out)) ?_
      refine OKS.rm rfl rfl rfl rfl rfl f798 ?_
      refine OKS.r rfl rfl rfl rfl (fun _ => Runs.len rfl rfl Try.runUnderlying45) ?_
      refine OKS.r rfl rfl rfl rfl (fun _ => Runs.lss rfl rfl rfl) ?_
      refine OKS.e ?_
      refine thenQ_n ?_
      by_cases c804 : (↑(k783 + 1) : Int) < (↑p2.length : Int)
      ·have hm805 := hx791; rw [if_pos c804] at hm805; replace c804 := Hid.mk c804
       refine CK.condT (decT c804.out) ?_
       refine CK.reg (ks := []) (.fl 0 (.fl 1 (.fl 2 (.nil)))) rfl ?_
       refine OKS.rm rfl rfl rfl rfl rfl fi794 ?_
       refine OKS.r rfl rfl rfl rfl (fun _ => Runs.to (Runs.addw rfl rfl rfl) (congrArg (Value.int .i64) hi803.out)) ?_
       refine OKS.ra rfl rfl rfl rfl rfl rfl ?_
       refine OKS.e ?_
       refine thenQ_n ?_
       refine CK.seq ?_
       refine CK.anyOrd Try.mixed [3, 3, 3, 1, 3, 3, 3, 1, 3] (.fl 0 (.fl 1 (.fl 2 (.fl 3 (.fl 4 (.fl 5 (.fl 6 (.fl 7 (.fl 8 (.nil)))))))))) (by kernel_rfl) ?_
       have hS806 := hS797.drew
       generalize hw_W807 : ({ W789 with drawn := W789.drawn + 1 } : World) = W807 at hS806 ⊢
       refine OKS.rm rfl rfl rfl rfl rfl f800 ?_
       refine OKS.rm rfl rfl rfl rfl rfl fi794 ?_
       have q := bnd hm805
       obtain ⟨_, h808, hm809⟩ := q
       obtain ⟨b810, hA811⟩ := hS806.rowSome (j := 1) rfl (by rw [flatMap_len (f := encI) (sz := 1) (fun _ => rfl) y764]; have hz := chk_lt h808; omega)
       refine OKS.r rfl rfl rfl rfl (fun _ => Runs.iaN rfl rfl hA811 rfl Try.runUnderlying22 Try.sizeOf3 (chk_lt h808)) ?_
       have hg812 := gd_at (xs := y764) (chk_lt h808)
       refine OKS.m rfl rfl rfl rfl (hS806.ldR (j := 1) rfl hA811 rfl rfl Try.isAgg3 (flatMap_cell (sz := 1) (fun _ => rfl) _ _ 0 _ hg812 (by first | omega | rfl) rfl)) rfl ?_
       refine OKS.rm rfl rfl rfl rfl rfl f799 ?_
       refine OKS.rm rfl rfl rfl rfl rfl rfl ?_
       have q := bnd hm809
       obtain ⟨_, h813, hm814⟩ := q
       obtain ⟨b815, hA816⟩ := hS806.rowSome (j := 0) rfl (by rw [flatMap_len (f := encI) (sz := 1) (fun _ => rfl) y763]; have hz := chk_lt h813; omega)
       refine OKS.r rfl rfl rfl rfl (fun _ => Runs.iaN rfl rfl hA816 rfl Try.runUnderlying22 Try.sizeOf3 (chk_lt h813)) ?_
       have hg817 := gd_at (xs := y763) (chk_lt h813)
       refine OKS.m rfl rfl rfl rfl (hS806.ldR (j := 0) rfl hA816 rfl rfl Try.isAgg3 (flatMap_cell (sz := 1) (fun _ => rfl) _ _ 0 _ hg817 (by first | omega | rfl) rfl)) rfl ?_
       refine OKS.r rfl rfl rfl rfl (fun _ => Runs.neq rfl rfl rfl) ?_
       refine OKS.e ?_
       refine thenQ_n ?_
       by_cases c818 : (gd y764 k783) = (gd y763 (k783 + 1))
       ·have hm819 := hm814; rw [if_pos c818] at hm819; replace c818 := Hid.mk c818
        refine CK.condF (decF (fun h => h c818.out)) ?_
        refine CK.skip ?_
        refine blockQ_n ?_
        refine thenQ_n ?_
        refine CK.reg (ks := []) (.fl 0 (.fl 1 (.fl 2 (.nil)))) rfl ?_
        refine OKS.rm rfl rfl rfl rfl rfl fi794 ?_
        refine OKS.r rfl rfl rfl rfl (fun _ => Runs.to (Runs.addw rfl rfl rfl) (congrArg (Value.int .i64) hi803.out)) ?_
        refine OKS.ra rfl rfl rfl rfl rfl rfl ?_
        refine OKS.e ?_
        obtain rfl := Option.some.inj hm819
        exact thenQ_n ⟨rfl, _, rfl, ⟨φ795, rfl, f798, f799, f800, f801, le796, hS806⟩⟩
       ·have hm820 := hm814; rw [if_neg c818] at hm820; replace c818 := Hid.mk c818
        refine CK.condT (decT c818.out) ?_
        refine CK.seq ?_
        refine CK.reg (ks := []) (.fl 0 (.fl 1 (.nil))) rfl ?_
        refine OKS.ra rfl rfl rfl rfl rfl rfl ?_
        refine OKS.ra rfl rfl rfl rfl rfl rfl ?_
        refine OKS.e ?_
        refine thenQ_n ?_
        refine CK.ret ?_
        refine blockQ_r ?_
        refine thenQ_r ?_
        have q := esc_spec hm820
        obtain ⟨v821, hm822, e823⟩ := q
        obtain rfl := jn_inr hm779 hX785 (hb792 v821 e823)
        refine thenQ_r ?_
        refine blockQ_r ?_
        refine thenQ_r ?_
        cases hm822
        exact ⟨rfl, _, (res2 rfl rfl), φ795, _, (hS806.pick [] _ (by decide) rfl), rfl, rfl⟩
      ·have hm824 := hx791; rw [if_neg c804] at hm824; replace c804 := Hid.mk c804
       refine CK.condF (decF c804.out) ?_
       refine CK.skip ?_
       refine thenQ_n ?_
       refine CK.seq ?_
       refine CK.anyOrd Try.mixed [3, 3, 3, 1, 3, 3, 3, 1, 3] (.fl 0 (.fl 1 (.fl 2 (.fl 3 (.fl 4 (.fl 5 (.fl 6 (.fl 7 (.fl 8 (.nil)))))))))) (by kernel_rfl) ?_
       have hS825 := hS797.drew
       generalize hw_W826 : ({ W789 with drawn := W789.drawn + 1 } : World) = W826 at hS825 ⊢
       refine OKS.rm rfl rfl rfl rfl rfl f800 ?_
       refine OKS.rm rfl rfl rfl rfl rfl fi794 ?_
       have q := bnd hm824
       obtain ⟨_, h827, hm828⟩ := q
       obtain ⟨b829, hA830⟩ := hS825.rowSome (j := 1) rfl (by rw [flatMap_len (f := encI) (sz := 1) (fun _ => rfl) y764]; have hz := chk_lt h827; omega)
       refine OKS.r rfl rfl rfl rfl (fun _ => Runs.iaN rfl rfl hA830 rfl Try.runUnderlying22 Try.sizeOf3 (chk_lt h827)) ?_
       have hg831 := gd_at (xs := y764) (chk_lt h827)
       refine OKS.m rfl rfl rfl rfl (hS825.ldR (j := 1) rfl hA830 rfl rfl Try.isAgg3 (flatMap_cell (sz := 1) (fun _ => rfl) _ _ 0 _ hg831 (by first | omega | rfl) rfl)) rfl ?_
       refine OKS.rm rfl rfl rfl rfl rfl f799 ?_
       refine OKS.rm rfl rfl rfl rfl rfl rfl ?_
       have q := bnd hm828
       obtain ⟨_, h832, hm833⟩ := q
       obtain ⟨b834, hA835⟩ := hS825.rowSome (j := 0) rfl (by rw [flatMap_len (f := encI) (sz := 1) (fun _ => rfl) y763]; have hz := chk_lt h832; omega)
       refine OKS.r rfl rfl rfl rfl (fun _ => Runs.iaN rfl rfl hA835 rfl Try.runUnderlying22 Try.sizeOf3 (chk_lt h832)) ?_
       have hg836 := gd_at (xs := y763) (chk_lt h832)
       refine OKS.m rfl rfl rfl rfl (hS825.ldR (j := 0) rfl hA835 rfl rfl Try.isAgg3 (flatMap_cell (sz := 1) (fun _ => rfl) _ _ 0 _ hg836 (by first | omega | rfl) rfl)) rfl ?_
       refine OKS.r rfl rfl rfl rfl (fun _ => Runs.neq rfl rfl rfl) ?_
       refine OKS.e ?_
       refine thenQ_n ?_
       by_cases c837 : (gd y764 k783) = (gd y763 0)
       ·have hm838 := hm833; rw [if_pos c837] at hm838; replace c837 := Hid.mk c837
        refine CK.condF (decF (fun h => h c837.out)) ?_
        refine CK.skip ?_
        refine blockQ_n ?_
        refine thenQ_n ?_
        refine CK.reg (ks := []) (.fl 0 (.fl 1 (.fl 2 (.nil)))) rfl ?_
        refine OKS.rm rfl rfl rfl rfl rfl fi794 ?_
        refine OKS.r rfl rfl rfl rfl (fun _ => Runs.to (Runs.addw rfl rfl rfl) (congrArg (Value.int .i64) hi803.out)) ?_
        refine OKS.ra rfl rfl rfl rfl rfl rfl ?_
        refine OKS.e ?_
        obtain rfl := Option.some.inj hm838
        exact thenQ_n ⟨rfl, _, rfl, ⟨φ795, rfl, f798, f799, f800, f801, le796, hS825⟩⟩
       ·have hm839 := hm833; rw [if_neg c837] at hm839; replace c837 := Hid.mk c837
        refine CK.condT (decT c837.out) ?_
        refine CK.seq ?_
        refine CK.reg (ks := []) (.fl 0 (.fl 1 (.nil))) rfl ?_
        refine OKS.ra rfl rfl rfl rfl rfl rfl ?_
        refine OKS.ra rfl rfl rfl rfl rfl rfl ?_
        refine OKS.e ?_
        refine thenQ_n ?_
        refine CK.ret ?_
        refine blockQ_r ?_
        refine thenQ_r ?_
        have q := esc_spec hm839
        obtain ⟨v840, hm841, e842⟩ := q
        obtain rfl := jn_inr hm779 hX785 (hb792 v840 e842)
        refine thenQ_r ?_
        refine blockQ_r ?_
        refine thenQ_r ?_
        cases hm841
        exact ⟨rfl, _, (res2 rfl rfl), φ795, _, (hS825.pick [] _ (by decide) rfl), rfl, rfl⟩
     ·rintro ⟨⟩ σ843 W844 ⟨φ847, fi846, f850, f851, f852, f853, le848, hS849⟩ hb845
      have hm854 := jn_inl hm779 hX785 hb845
      try dsimp only at hm854
      have c855 : Hid (¬ ((↑(((↑p2.length : Int) : Int) - 0).toNat : Int) < (↑p2.length : Int))) := Hid.mk (lp_end0)
      refine CK.seq ?_
      refine CK.seq ?_
      refine CK.reg (ks := []) (.fl 0 (.fl 1 (.fl 2 (.fl 3 (.nil))))) rfl ?_
      refine OKS.rm rfl rfl rfl rfl rfl fi846 ?_
      refine OKS.rm rfl rfl rfl rfl rfl f850 ?_
      refine OKS.r rfl rfl rfl rfl (fun _ => Runs.len rfl rfl Try.runUnderlying45) ?_
      refine OKS.r rfl rfl rfl rfl (fun _ => Runs.lss rfl rfl rfl) ?_
      refine OKS.e ?_
      refine thenQ_n ?_
      refine CK.condF (decF c855.out) ?_
      refine CK.exit ?_
      refine thenQ_e ?_
      refine thenQ_e ?_
      refine blockQ_h ?_
      refine thenQ_n ?_
      refine CK.seq ?_
      refine CK.seq ?_
      refine CK.reg (ks := []) (.fl 0 (.fl 1 (.nil))) rfl ?_
      refine OKS.rm rfl rfl rfl rfl rfl f853 ?_
      refine OKS.r rfl rfl rfl rfl (fun _ => Runs.geq rfl rfl rfl) ?_
      refine OKS.e ?_
      refine thenQ_n ?_
      by_cases c856 : 0 ≤ y765
      ·have hm857 := hm854; rw [if_pos c856] at hm857; replace c856 := Hid.mk c856
       refine CK.condT (decT c856.out) ?_
       refine CK.seq ?_
       refine CK.reg (ks := []) (.fl 0 (.fl 1 (.nil))) rfl ?_
       refine OKS.ra rfl rfl rfl rfl rfl rfl ?_
       refine OKS.ra rfl rfl rfl rfl rfl rfl ?_
       refine OKS.e ?_
       refine thenQ_n ?_
       refine CK.ret ?_
       refine thenQ_r ?_
       cases hm857
       exact ⟨rfl, _, (res2 rfl rfl), φ847, _, (hS849.pick [] _ (by decide) rfl), rfl, rfl⟩
      ·have hm858 := hm854; rw [if_neg c856] at hm858; replace c856 := Hid.mk c856
       refine CK.condF (decF c856.out) ?_
       refine CK.skip ?_
       refine thenQ_n ?_
       refine CK.seq ?_
       refine CK.reg (ks := []) (.fl 0 (.fl 1 (.fl 2 (.nil)))) rfl ?_
       refine OKS.rm rfl rfl rfl rfl rfl f853 ?_
       refine OKS.ra rfl rfl rfl rfl rfl rfl ?_
       refine OKS.ra rfl rfl rfl rfl rfl rfl ?_
       refine OKS.e ?_
       refine thenQ_n ?_
       refine CK.ret ?_
       cases hm858
       exact ⟨rfl, _, (res2 rfl rfl), φ847, _, (hS849.pick [] _ (by decide) rfl), rfl, rfl⟩
 ·have hm859 := hm3; rw [if_neg c11] at hm859; replace c11 := Hid.mk c11
  refine CK.condT (decT c11.out) ?_
  refine CK.seq ?_
  refine CK.reg (ks := []) (.fl 0 (.fl 1 (.fl 2 (.nil)))) rfl ?_
  refine OKS.rm rfl rfl rfl rfl rfl rfl ?_
  refine OKS.ra rfl rfl rfl rfl rfl rfl ?_
  refine OKS.ra rfl rfl rfl rfl rfl rfl ?_
  refine OKS.e ?_
  refine thenQ_n ?_
  refine CK.ret ?_
  refine thenQ_r ?_
  cases hm859
  exact ⟨rfl, _, (res2 rfl rfl), φ4, _, hS10, rfl, rfl⟩
end Go.Proofs.Ytaoaelhmiggepaa
