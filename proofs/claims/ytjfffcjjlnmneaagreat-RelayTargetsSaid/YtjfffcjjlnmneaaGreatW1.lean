/- Walks, printed by a program: each function does what its model says. -/
import Derived.Test.YtjfffcjjlnmneaaGreatEnc
import Derived.Test.YtjfffcjjlnmneaaGreatW0
namespace Go.Proofs.YtjfffcjjlnmneaaGreat
open Go.KL
set_option maxHeartbeats 4000000 in
theorem w_target_Loops (p0 : Int) (p1 : List T_target_Shot) (pA1 : Option Addr) (pc1 : Nat) (w : World) (φ : PHeap) (hS : St ⟨w, [], φ⟩ φ [] w) (ha0 : Sl φ 2 pA1 pc1 p1.length (List.flatMap encT_target_Shot p1)) {r : Int × Int} (hm : m_target_Loops p0 p1 = some r) : Gv Tryz.prog 44 [.int .i64 p0, .slice pA1 p1.length pc1] w (RetS w [] φ (fun φ_ L_ v => v = .tuple #[.int .i64 r.1, .int .i64 r.2] ∧ L_ = [])) := by
 unfold m_target_Loops at hm
 refine Gv.of Tryz.func44 rfl Tryz.ntmps44 Tryz.results44 rfl ?_
 refine CK.seq ?_
 refine CK.reg (ks := []) (.fl 0 (.fl 1 (.nil))) rfl ?_
 refine OKS.ra rfl rfl rfl rfl rfl rfl ?_
 refine OKS.ra rfl rfl rfl rfl rfl rfl ?_
 refine OKS.e ?_
 refine thenQ_n ?_
 refine CK.seq ?_
 refine CK.reg (ks := []) (.fl 0 (.fl 1 (.fx 2 (.fl 3 (.fl 4 (.fl 5 (.fl 6 (.fl 7 (.nil)))))) .stop))) rfl ?_
 refine OKS.rm rfl rfl rfl rfl rfl rfl ?_
 refine OKS.rm rfl rfl rfl rfl rfl rfl ?_
 have q := bnd hm
 obtain ⟨⟨x1, x2⟩, h3, hm4⟩ := q
 try dsimp only at hm4
 refine OKS.callH 0 rfl rfl rfl rfl (Enters.mk rfl rfl Tryz.call43 (mapcons rfl (mapcons rfl mapnil)) rfl) hS (fun hs => w_target_Falls p0 p1 pA1 pc1 w φ hs ha0 h3) (.inr rfl) ?_
 rintro φ5 L6 v7 W8 le9 hS10 ⟨A11, c12, rfl, rfl⟩
 have hS14 : St ⟨w, [], φ⟩ φ5 [.row A11 c12 3 1 (List.flatMap encI x1)] W8 := hS10
 refine OKS.rm rfl rfl rfl rfl rfl rfl ?_
 refine OKS.r rfl rfl rfl rfl (fun _ => Runs.ext rfl rfl (v := .slice A11 x1.length c12) rfl) ?_
 refine OKS.r rfl rfl rfl rfl (fun _ => Runs.ext rfl rfl (v := .int .i64 x2) rfl) ?_
 refine OKS.ra rfl rfl rfl rfl rfl rfl ?_
 refine OKS.ra rfl rfl rfl rfl rfl rfl ?_
 refine OKS.e ?_
 refine thenQ_n ?_
 refine CK.seq ?_
 refine CK.seq ?_
 refine CK.reg (ks := []) (.fl 0 (.fl 1 (.nil))) rfl ?_
 refine OKS.rm rfl rfl rfl rfl rfl rfl ?_
 refine OKS.r rfl rfl rfl rfl (fun _ => Runs.neq rfl rfl rfl) ?_
 refine OKS.e ?_
 refine thenQ_n ?_
 by_cases c15 : x2 = 0
 ·have hm16 := hm4; rw [if_pos c15] at hm16; replace c15 := Hid.mk c15
  refine CK.condF (decF (fun h => h c15.out)) ?_
  refine CK.skip ?_
  refine thenQ_n ?_
  refine CK.seq ?_
  refine CK.reg (ks := []) (.fl 0 (.nil)) rfl ?_
  refine OKS.ra rfl rfl rfl rfl rfl rfl ?_
  refine OKS.e ?_
  refine thenQ_n ?_
  refine CK.seq ?_
  refine CK.seq ?_
  refine CK.reg (ks := []) (.fl 0 (.fl 1 (.fl 2 (.nil)))) rfl ?_
  refine OKS.rm rfl rfl rfl rfl rfl rfl ?_
  refine OKS.r rfl rfl rfl rfl (fun _ => Runs.len rfl rfl Tryz.runUnderlying23) ?_
  refine OKS.rm rfl rfl rfl rfl rfl rfl ?_
  refine OKS.e ?_
  refine thenQ_n ?_
  refine CK.block ?_
  have q := bnd hm16
  obtain ⟨y28, hf25, hm24⟩ := q
  have q := forR'_le hf25
  obtain ⟨hle26, hf27⟩ := q
  replace hle26 := Hid.mk hle26
  refine CK.forN' (fun k23 x22 σ_ w_ => ∃ (φ_ : PHeap), σ_ 22 = .int .i64 (↑k23 : Int) ∧ σ_ 8 = .int .i64 x22 ∧ σ_ 20 = .slice A11 x1.length c12 ∧ σ_ 21 = .int .i64 (↑x1.length : Int) ∧ PHeap.Le φ5 φ_ ∧ St ⟨w, [], φ⟩ φ_ [.row A11 c12 3 1 (List.flatMap encI x1)] w_) hf27 ?_ ?_ ?_
  ·exact ⟨φ5, rfl, rfl, rfl, rfl, (PHeap.Le.refl _), hS14⟩
  ·rintro k23 x22 xx31 σ29 W30 hk34 ⟨φ36, fi35, f39, f40, f41, le37, hS38⟩ hx32
   have c42 : Hid ((↑k23 : Int) < (↑x1.length : Int)) := Hid.mk (lp_lt0 hk34)
   replace hk34 := Hid.mk hk34
   have hi43 : Hid (w64 ((↑k23 : Int) + 1) = (↑(k23 + 1) : Int)) := Hid.mk (by have h1 := hle26.out; have h2 := c42.out; rw [w64_in] <;> omega)
   refine CK.seq ?_
   refine CK.reg (ks := []) (.fl 0 (.nil)) rfl ?_
   refine OKS.r rfl rfl rfl rfl (fun _ => Runs.lss rfl fi35 f41) ?_
   refine OKS.e ?_
   refine thenQ_n ?_
   refine CK.seq ?_
   refine CK.condT (decT c42.out) ?_
   refine CK.skip ?_
   refine thenQ_n ?_
   refine CK.seq ?_
   refine CK.block ?_
   refine CK.seq ?_
   refine CK.reg (ks := []) (.fl 0 (.fl 1 (.fl 2 (.nil)))) rfl ?_
   have q := bnd hx32
   obtain ⟨_, h44, hm45⟩ := q
   obtain ⟨b46, hA47⟩ := hS38.rowSome (j := 0) rfl (by rw [flatMap_len (f := encI) (sz := 1) (fun _ => rfl) x1]; have hz := chk_lt h44; omega)
   refine OKS.r rfl rfl rfl rfl (fun _ => Runs.iaN rfl f40 hA47 fi35 Tryz.runUnderlying23 Tryz.sizeOf3 (chk_lt h44)) ?_
   have hg48 := gd_at (xs := x1) (chk_lt h44)
   refine OKS.m rfl rfl rfl rfl (hS38.ldR (j := 0) rfl hA47 rfl rfl Tryz.isAgg3 (flatMap_cell (sz := 1) (fun _ => rfl) _ _ 0 _ hg48 (by first | omega | rfl | simp) rfl)) rfl ?_
   refine OKS.ra rfl rfl rfl rfl rfl rfl ?_
   refine OKS.e ?_
   refine thenQ_n ?_
   refine CK.seq ?_
   refine CK.reg (ks := []) (.fl 0 (.fl 1 (.nil))) rfl ?_
   refine OKS.rm rfl rfl rfl rfl rfl rfl ?_
   refine OKS.r rfl rfl rfl rfl (fun _ => Runs.gtr rfl rfl rfl) ?_
   refine OKS.e ?_
   refine thenQ_n ?_
   by_cases c49 : 0 < (gd x1 k23)
   ·have hm50 := hm45; rw [if_pos c49] at hm50; replace c49 := Hid.mk c49
    refine CK.condT (decT c49.out) ?_
    refine CK.reg (ks := []) (.fl 0 (.fl 1 (.fl 2 (.nil)))) rfl ?_
    refine OKS.rm rfl rfl rfl rfl rfl f39 ?_
    refine OKS.r rfl rfl rfl rfl (fun _ => Runs.subw rfl rfl rfl) ?_
    refine OKS.ra rfl rfl rfl rfl rfl rfl ?_
    refine OKS.e ?_
    refine blockQ_n ?_
    refine thenQ_n ?_
    refine CK.reg (ks := []) (.fl 0 (.fl 1 (.nil))) rfl ?_
    refine OKS.r rfl rfl rfl rfl (fun _ => Runs.to (Runs.addw rfl fi35 rfl) (congrArg (Value.int .i64) hi43.out)) ?_
    refine OKS.rm rfl rfl rfl rfl rfl rfl ?_
    refine OKS.e ?_
    cases hm50
    exact thenQ_n ⟨rfl, ⟨φ36, rfl, rfl, f40, f41, le37, hS38⟩⟩
   ·have hm52 := hm45; rw [if_neg c49] at hm52; replace c49 := Hid.mk c49
    refine CK.condF (decF c49.out) ?_
    refine CK.skip ?_
    refine blockQ_n ?_
    refine thenQ_n ?_
    refine CK.reg (ks := []) (.fl 0 (.fl 1 (.nil))) rfl ?_
    refine OKS.r rfl rfl rfl rfl (fun _ => Runs.to (Runs.addw rfl fi35 rfl) (congrArg (Value.int .i64) hi43.out)) ?_
    refine OKS.rm rfl rfl rfl rfl rfl rfl ?_
    refine OKS.e ?_
    cases hm52
    exact thenQ_n ⟨rfl, ⟨φ36, rfl, f39, f40, f41, le37, hS38⟩⟩
  ·rintro σ54 W55 ⟨φ59, fi57, f62, f63, f64, le60, hS61⟩
   have c65 : Hid (¬ ((↑(((↑x1.length : Int) : Int) - 0).toNat : Int) < (↑x1.length : Int))) := Hid.mk (lp_end0)
   refine CK.seq ?_
   refine CK.reg (ks := []) (.fl 0 (.nil)) rfl ?_
   refine OKS.r rfl rfl rfl rfl (fun _ => Runs.lss rfl fi57 f64) ?_
   refine OKS.e ?_
   refine thenQ_n ?_
   refine CK.seq ?_
   refine CK.condF (decF c65.out) ?_
   refine CK.exit ?_
   refine thenQ_e ?_
   refine thenQ_e ?_
   refine blockQ_h ?_
   refine thenQ_n ?_
   refine CK.seq ?_
   refine CK.reg (ks := []) (.fl 0 (.fl 1 (.fl 2 (.nil)))) rfl ?_
   refine OKS.rm rfl rfl rfl rfl rfl f62 ?_
   refine OKS.ra rfl rfl rfl rfl rfl rfl ?_
   refine OKS.ra rfl rfl rfl rfl rfl rfl ?_
   refine OKS.e ?_
   refine thenQ_n ?_
   refine CK.ret ?_
   cases hm24
   exact ⟨rfl, _, (res2 rfl rfl), φ59, _, (hS61.pick [] _ (by decide) rfl), rfl, rfl⟩
 ·have hm66 := hm4; rw [if_neg c15] at hm66; replace c15 := Hid.mk c15
  refine CK.condT (decT c15.out) ?_
  refine CK.seq ?_
  refine CK.reg (ks := []) (.fl 0 (.fl 1 (.fl 2 (.nil)))) rfl ?_
  refine OKS.rm rfl rfl rfl rfl rfl rfl ?_
  refine OKS.ra rfl rfl rfl rfl rfl rfl ?_
  refine OKS.ra rfl rfl rfl rfl rfl rfl ?_
  refine OKS.e ?_
  refine thenQ_n ?_
  refine CK.ret ?_
  refine thenQ_r ?_
  cases hm66
  exact ⟨rfl, _, (res2 rfl rfl), φ5, _, (hS14.pick [] _ (by decide) rfl), rfl, rfl⟩

set_option maxHeartbeats 4000000 in
theorem w_target_Spares (p0 : Int) (p1 : List T_target_Shot) (pA1 : Option Addr) (pc1 : Nat) (w : World) (φ : PHeap) (hS : St ⟨w, [], φ⟩ φ [] w) (ha0 : Sl φ 2 pA1 pc1 p1.length (List.flatMap encT_target_Shot p1)) {r : Int × Int} (hm : m_target_Spares p0 p1 = some r) : Gv Tryz.prog 45 [.int .i64 p0, .slice pA1 p1.length pc1] w (RetS w [] φ (fun φ_ L_ v => v = .tuple #[.int .i64 r.1, .int .i64 r.2] ∧ L_ = [])) := by
 unfold m_target_Spares at hm
 refine Gv.of Tryz.func45 rfl Tryz.ntmps45 Tryz.results45 rfl ?_
 refine CK.seq ?_
 refine CK.reg (ks := []) (.fl 0 (.fl 1 (.nil))) rfl ?_
 refine OKS.ra rfl rfl rfl rfl rfl rfl ?_
 refine OKS.ra rfl rfl rfl rfl rfl rfl ?_
 refine OKS.e ?_
 refine thenQ_n ?_
 refine CK.seq ?_
 refine CK.reg (ks := []) (.fl 0 (.fl 1 (.fx 2 (.fl 3 (.fl 4 (.fl 5 (.fl 6 (.fl 7 (.nil)))))) .stop))) rfl ?_
 refine OKS.rm rfl rfl rfl rfl rfl rfl ?_
 refine OKS.rm rfl rfl rfl rfl rfl rfl ?_
 have q := bnd hm
 obtain ⟨⟨x1, x2⟩, h3, hm4⟩ := q
 try dsimp only at hm4
 refine OKS.callH 0 rfl rfl rfl rfl (Enters.mk rfl rfl Tryz.call43 (mapcons rfl (mapcons rfl mapnil)) rfl) hS (fun hs => w_target_Falls p0 p1 pA1 pc1 w φ hs ha0 h3) (.inr rfl) ?_
 rintro φ5 L6 v7 W8 le9 hS10 ⟨A11, c12, rfl, rfl⟩
 have hS14 : St ⟨w, [], φ⟩ φ5 [.row A11 c12 3 1 (List.flatMap encI x1)] W8 := hS10
 refine OKS.rm rfl rfl rfl rfl rfl rfl ?_
 refine OKS.r rfl rfl rfl rfl (fun _ => Runs.ext rfl rfl (v := .slice A11 x1.length c12) rfl) ?_
 refine OKS.r rfl rfl rfl rfl (fun _ => Runs.ext rfl rfl (v := .int .i64 x2) rfl) ?_
 refine OKS.ra rfl rfl rfl rfl rfl rfl ?_
 refine OKS.ra rfl rfl rfl rfl rfl rfl ?_
 refine OKS.e ?_
 refine thenQ_n ?_
 refine CK.seq ?_
 refine CK.seq ?_
 refine CK.reg (ks := []) (.fl 0 (.fl 1 (.nil))) rfl ?_
 refine OKS.rm rfl rfl rfl rfl rfl rfl ?_
 refine OKS.r rfl rfl rfl rfl (fun _ => Runs.neq rfl rfl rfl) ?_
 refine OKS.e ?_
 refine thenQ_n ?_
 by_cases c15 : x2 = 0
 ·have hm16 := hm4; rw [if_pos c15] at hm16; replace c15 := Hid.mk c15
  refine CK.condF (decF (fun h => h c15.out)) ?_
  refine CK.skip ?_
  refine thenQ_n ?_
  refine CK.seq ?_
  refine CK.reg (ks := []) (.fl 0 (.fl 1 (.fl 2 (.fl 3 (.fl 4 (.fl 5 (.nil))))))) rfl ?_
  refine OKS.rm rfl rfl rfl rfl rfl rfl ?_
  refine OKS.r rfl rfl rfl rfl (fun _ => Runs.len rfl rfl Tryz.runUnderlying23) ?_
  refine OKS.r rfl rfl rfl rfl (fun _ => Runs.subw rfl rfl rfl) ?_
  refine OKS.r rfl rfl rfl rfl (fun _ => Runs.max rfl rfl rfl) ?_
  refine OKS.ra rfl rfl rfl rfl rfl rfl ?_
  refine OKS.ra rfl rfl rfl rfl rfl rfl ?_
  refine OKS.e ?_
  refine thenQ_n ?_
  refine CK.ret ?_
  cases hm16
  exact ⟨rfl, _, (res2 rfl rfl), φ5, _, (hS14.pick [] _ (by decide) rfl), rfl, rfl⟩
 ·have hm17 := hm4; rw [if_neg c15] at hm17; replace c15 := Hid.mk c15
  refine CK.condT (decT c15.out) ?_
  refine CK.seq ?_
  refine CK.reg (ks := []) (.fl 0 (.fl 1 (.fl 2 (.nil)))) rfl ?_
  refine OKS.rm rfl rfl rfl rfl rfl rfl ?_
  refine OKS.ra rfl rfl rfl rfl rfl rfl ?_
  refine OKS.ra rfl rfl rfl rfl rfl rfl ?_
  refine OKS.e ?_
  refine thenQ_n ?_
  refine CK.ret ?_
  refine thenQ_r ?_
  cases hm17
  exact ⟨rfl, _, (res2 rfl rfl), φ5, _, (hS14.pick [] _ (by decide) rfl), rfl, rfl⟩

set_option maxHeartbeats 4000000 in
theorem w_relay_in (p0 : Int) (p1 : Int) (p2 : Int) (w : World) (φ : PHeap) (hS : St ⟨w, [], φ⟩ φ [] w)  {r : Bool} (hm : m_relay_in p0 p1 p2 = some r) : Gv Tryz.prog 111 [.int .i64 p0, .int .i64 p1, .int .i64 p2] w (RetS w [] φ (fun φ_ L_ v => v = .bool r ∧ L_ = [])) := by
 unfold m_relay_in at hm
 refine Gv.of Tryz.func111 rfl Tryz.ntmps111 Tryz.results111 rfl ?_
 refine CK.seq ?_
 refine CK.reg (ks := []) (.fl 0 (.nil)) rfl ?_
 refine OKS.ra rfl rfl rfl rfl rfl rfl ?_
 refine OKS.e ?_
 refine thenQ_n ?_
 refine CK.seq ?_
 refine CK.reg (ks := []) (.fl 0 (.fl 1 (.fl 2 (.fl 3 (.fl 4 (.fl 5 (.fl 6 (.fl 7 (.fl 8 (.nil)))))))))) rfl ?_
 refine OKS.rm rfl rfl rfl rfl rfl rfl ?_
 refine OKS.rm rfl rfl rfl rfl rfl rfl ?_
 refine OKS.r rfl rfl rfl rfl (fun _ => Runs.geq rfl rfl rfl) ?_
 refine OKS.rm rfl rfl rfl rfl rfl rfl ?_
 by_cases c1 : p1 ≤ p0
 ·have hm2 := hm; rw [if_pos c1] at hm2; replace c1 := Hid.mk c1
  refine OKS.rm rfl rfl rfl (wantedY rfl rfl (decT c1.out)) rfl rfl ?_
  refine OKS.rm rfl rfl rfl (wantedY rfl rfl (decT c1.out)) rfl rfl ?_
  refine OKS.r rfl rfl rfl (wantedY rfl rfl (decT c1.out)) (fun _ => Runs.leq rfl rfl rfl) ?_
  refine OKS.r rfl rfl rfl rfl (fun _ => Runs.pickT rfl (decT c1.out) rfl) ?_
  refine OKS.ra rfl rfl rfl rfl rfl rfl ?_
  refine OKS.e ?_
  refine thenQ_n ?_
  refine CK.ret ?_
  cases hm2
  exact ⟨rfl, _, (res1 rfl), φ, _, hS, rfl, rfl⟩
 ·have hm3 := hm; rw [if_neg c1] at hm3; replace c1 := Hid.mk c1
  refine OKS.p rfl rfl rfl (wantedN rfl rfl (decF c1.out) rfl) ?_
  refine OKS.p rfl rfl rfl (wantedN rfl rfl (decF c1.out) rfl) ?_
  refine OKS.p rfl rfl rfl (wantedN rfl rfl (decF c1.out) rfl) ?_
  refine OKS.r rfl rfl rfl rfl (fun _ => Runs.pickF rfl (decF c1.out) rfl) ?_
  refine OKS.ra rfl rfl rfl rfl rfl rfl ?_
  refine OKS.e ?_
  refine thenQ_n ?_
  refine CK.ret ?_
  have hE := Option.some.inj hm3; first | subst r | cases hE
  exact ⟨rfl, _, (res1 rfl), φ, _, hS, rfl, rfl⟩

set_option maxHeartbeats 4000000 in
theorem w_relay_Shot (p0 : List Bool) (pA0 : Option Addr) (pc0 : Nat) (w : World) (φ : PHeap) (hS : St ⟨w, [], φ⟩ φ [] w) (ha0 : Sl φ 1 pA0 pc0 p0.length (List.flatMap encT p0)) {r : T_relay_Shooting × Int} (hm : m_relay_Shot p0 = some r) : Gv Tryz.prog 22 [.slice pA0 p0.length pc0] w (RetS w [] φ (fun φ_ L_ v => v = .tuple #[.agg #[.int .i64 r.1.Spares, .int .i64 r.1.Loops, .int .i64 r.1.Unused], .int .i64 r.2] ∧ L_ = [])) := by
 unfold m_relay_Shot at hm
 refine Gv.of Tryz.func22 rfl Tryz.ntmps22 Tryz.results22 rfl ?_
 refine CK.seq ?_
 refine CK.reg (ks := []) (.fx 0 (.fl 1 (.nil)) .stop) rfl ?_
 refine OKS.alloc (cs := [.int .i64 0, .int .i64 0, .int .i64 0]) rfl rfl rfl rfl rfl Tryz.zeroValue49 rfl hS ?_
 intro W1 b2 hS3
 refine OKS.ra rfl rfl rfl rfl rfl rfl ?_
 refine OKS.e ?_
 refine thenQ_n ?_
 refine CK.seq ?_
 refine CK.seq ?_
 refine CK.reg (ks := []) (.fl 0 (.fl 1 (.fx 2 (.fl 3 (.nil)) .stop))) rfl ?_
 refine OKS.rm rfl rfl rfl rfl rfl rfl ?_
 refine OKS.r rfl rfl rfl rfl (fun _ => Runs.len rfl rfl Tryz.runUnderlying52) ?_
 have q := bnd hm
 obtain ⟨x5, h6, hm7⟩ := q
 refine OKS.callH 0 rfl rfl rfl rfl (Enters.mk rfl rfl Tryz.call111 (mapcons rfl (mapcons rfl (mapcons rfl mapnil))) rfl) hS3 (fun hs => w_relay_in (↑p0.length : Int) 5 8 W1 φ hs h6) (.inr rfl) ?_
 rintro φ8 L9 v10 W11 le12 hS13 ⟨rfl, rfl⟩
 have hS14 : St ⟨w, [], φ⟩ φ8 [.blk b2 49 [.int .i64 0, .int .i64 0, .int .i64 0]] W11 := hS13
 refine OKS.r rfl rfl rfl rfl (fun _ => Runs.notT rfl rfl) ?_
 refine OKS.e ?_
 refine thenQ_n ?_
 by_cases c15 : x5 = true
 ·have hm16 := hm7; rw [if_pos c15] at hm16; replace c15 := Hid.mk c15
  refine CK.condF (congrArg (fun b => Value.bool (!b)) c15.out) ?_
  refine CK.skip ?_
  refine thenQ_n ?_
  refine CK.seq ?_
  refine CK.reg (ks := []) (.fl 0 (.nil)) rfl ?_
  refine OKS.ra rfl rfl rfl rfl rfl rfl ?_
  refine OKS.e ?_
  refine thenQ_n ?_
  refine CK.seq ?_
  refine CK.seq ?_
  refine CK.reg (ks := []) (.fl 0 (.fl 1 (.fl 2 (.nil)))) rfl ?_
  refine OKS.rm rfl rfl rfl rfl rfl rfl ?_
  refine OKS.r rfl rfl rfl rfl (fun _ => Runs.len rfl rfl Tryz.runUnderlying52) ?_
  refine OKS.rm rfl rfl rfl rfl rfl rfl ?_
  refine OKS.e ?_
  refine thenQ_n ?_
  refine CK.block ?_
  have q := jn_some hm16
  obtain ⟨r24, hX25⟩ := q
  have q := forR_le hX25
  obtain ⟨hle26, hf27⟩ := q
  replace hle26 := Hid.mk hle26
  refine CK.forN (fun k23 x22 σ_ w_ => ∃ (φ_ : PHeap), σ_ 15 = .int .i64 (↑k23 : Int) ∧ σ_ 0 = .slice pA0 p0.length pc0 ∧ σ_ 2 = .pointer (some ⟨b2, 0, none⟩) ∧ σ_ 4 = .int .i64 x22 ∧ σ_ 13 = .slice pA0 p0.length pc0 ∧ σ_ 14 = .int .i64 (↑p0.length : Int) ∧ PHeap.Le φ8 φ_ ∧ St ⟨w, [], φ⟩ φ_ [.blk b2 49 [.int .i64 0, .int .i64 0, .int .i64 0]] w_) hf27 ?_ ?_ ?_
  ·exact ⟨φ8, rfl, rfl, rfl, rfl, rfl, rfl, (PHeap.Le.refl _), hS14⟩
  ·rintro k23 x22 xx30 σ28 W29 hk33 ⟨φ35, fi34, f38, f39, f40, f41, f42, le36, hS37⟩ hx31 hb32
   have c43 : Hid ((↑k23 : Int) < (↑p0.length : Int)) := Hid.mk (lp_lt0 hk33)
   replace hk33 := Hid.mk hk33
   have hi44 : Hid (w64 ((↑k23 : Int) + 1) = (↑(k23 + 1) : Int)) := Hid.mk (by have h1 := hle26.out; have h2 := c43.out; rw [w64_in] <;> omega)
   refine CK.seq ?_
   refine CK.reg (ks := []) (.fl 0 (.nil)) rfl ?_
   refine OKS.r rfl rfl rfl rfl (fun _ => Runs.lss rfl fi34 f42) ?_
   refine OKS.e ?_
   refine thenQ_n ?_
   refine CK.seq ?_
   refine CK.condT (decT c43.out) ?_
   refine CK.skip ?_
   refine thenQ_n ?_
   refine CK.seq ?_
   refine CK.block ?_
   refine CK.seq ?_
   refine CK.reg (ks := []) (.fl 0 (.fl 1 (.fl 2 (.nil)))) rfl ?_
   have q := bnd hx31
   obtain ⟨x45, h46, hm47⟩ := q
   have h48 := ha0.le le12
   have h49 := h48.le le36
   have q := h49.el (fun _ => rfl) (idx_get h46)
   obtain ⟨b50, off51, hA52, hC53⟩ := q
   refine OKS.r rfl rfl rfl rfl (fun _ => Runs.iaN rfl f41 hA52 fi34 Tryz.runUnderlying52 Tryz.sizeOf4 (idx_lt h46)) ?_
   refine OKS.m rfl rfl rfl rfl (hS37.ldC (f := 0) hC53 (v := .bool x45) rfl rfl Tryz.isAgg4 rfl) rfl ?_
   refine OKS.ra rfl rfl rfl rfl rfl rfl ?_
   refine OKS.e ?_
   refine thenQ_n ?_
   refine CK.seq ?_
   refine CK.seq ?_
   refine CK.reg (ks := []) (.fl 0 (.fl 1 (.nil))) rfl ?_
   refine OKS.rm rfl rfl rfl rfl rfl f40 ?_
   refine OKS.r rfl rfl rfl rfl (fun _ => Runs.eql rfl rfl rfl) ?_
   refine OKS.e ?_
   refine thenQ_n ?_
   by_cases c54 : x22 = 0
   ·have hm55 := hm47; rw [if_pos c54] at hm55; replace c54 := Hid.mk c54
    refine CK.condT (decT c54.out) ?_
    refine CK.seq ?_
    refine CK.reg (ks := []) (.fl 0 (.fx 1 (.fl 2 (.nil)) .stop)) rfl ?_
    refine OKS.r rfl rfl rfl rfl (fun _ => Runs.build (pv := []) (z := [.int .i64 0, .int .i64 0, .int .i64 0]) (cs := [.int .i64 0, .int .i64 0, .int .i64 0]) rfl mapnil2 Tryz.zeroValue49 places49 rfl rfl) ?_
    refine OKS.st (j := 0) (vs := [.int .i64 0, .int .i64 0, .int .i64 0]) rfl rfl rfl rfl hS37 rfl f39 rfl rfl Tryz.sizeOf49 (Nat.le_of_ble_eq_true rfl) rfl rfl rfl ?_
    intro W56 hS57
    have hS58 : St ⟨w, [], φ⟩ φ35 [.blk b2 49 [.int .i64 0, .int .i64 0, .int .i64 0]] W56 := hS57
    refine OKS.ra rfl rfl rfl rfl rfl rfl ?_
    refine OKS.e ?_
    refine thenQ_n ?_
    refine CK.ret ?_
    refine thenQ_r ?_
    refine blockQ_r ?_
    refine thenQ_r ?_
    have q := esc_spec hm55
    obtain ⟨v59, hm60, e61⟩ := q
    obtain rfl := jn_inr hm16 hX25 (hb32 v59 e61)
    refine thenQ_r ?_
    refine blockQ_r ?_
    refine thenQ_r ?_
    cases hm60
    exact ⟨rfl, _, (resLn (rs := [.cell 2 49, .tmp 3]) (vs := [.agg #[.int .i64 0, .int .i64 0, .int .i64 0], .int .i64 8]) ⟨⟨_, f39, (ldvarA Tryz.isAgg49 Tryz.sizeOf49 (hS58.blkAt (k := 0) rfl) (vs := [.int .i64 0, .int .i64 0, .int .i64 0]) rfl rfl)⟩, ⟨rfl, trivial⟩⟩ rfl), φ35, _, (hS58.pick [] _ (by decide) rfl), rfl, rfl⟩
   ·have hm62 := hm47; rw [if_neg c54] at hm62; replace c54 := Hid.mk c54
    refine CK.condF (decF c54.out) ?_
    refine CK.skip ?_
    refine thenQ_n ?_
    refine CK.seq ?_
    refine CK.reg (ks := []) (.fl 0 (.nil)) rfl ?_
    refine OKS.rm rfl rfl rfl rfl rfl rfl ?_
    refine OKS.e ?_
    refine thenQ_n ?_
    by_cases c63 : x45 = true
    ·have hm64 := hm62; rw [if_pos c63] at hm64; replace c63 := Hid.mk c63
     refine CK.condT (congrArg Value.bool c63.out) ?_
     refine CK.reg (ks := []) (.fl 0 (.fl 1 (.fl 2 (.nil)))) rfl ?_
     refine OKS.rm rfl rfl rfl rfl rfl f40 ?_
     refine OKS.r rfl rfl rfl rfl (fun _ => Runs.subw rfl rfl rfl) ?_
     refine OKS.ra rfl rfl rfl rfl rfl rfl ?_
     refine OKS.e ?_
     refine blockQ_n ?_
     refine thenQ_n ?_
     refine CK.reg (ks := []) (.fl 0 (.fl 1 (.nil))) rfl ?_
     refine OKS.r rfl rfl rfl rfl (fun _ => Runs.to (Runs.addw rfl fi34 rfl) (congrArg (Value.int .i64) hi44.out)) ?_
     refine OKS.rm rfl rfl rfl rfl rfl rfl ?_
     refine OKS.e ?_
     obtain rfl := Option.some.inj hm64
     exact thenQ_n ⟨rfl, _, rfl, ⟨φ35, rfl, f38, f39, rfl, f41, f42, le36, hS37⟩⟩
    ·have hm66 := hm62; rw [if_neg c63] at hm66; replace c63 := Hid.mk c63
     refine CK.condF (congrArg Value.bool (Bool.eq_false_iff.2 c63.out)) ?_
     refine CK.skip ?_
     refine blockQ_n ?_
     refine thenQ_n ?_
     refine CK.reg (ks := []) (.fl 0 (.fl 1 (.nil))) rfl ?_
     refine OKS.r rfl rfl rfl rfl (fun _ => Runs.to (Runs.addw rfl fi34 rfl) (congrArg (Value.int .i64) hi44.out)) ?_
     refine OKS.rm rfl rfl rfl rfl rfl rfl ?_
     refine OKS.e ?_
     obtain rfl := Option.some.inj hm66
     exact thenQ_n ⟨rfl, _, rfl, ⟨φ35, rfl, f38, f39, f40, f41, f42, le36, hS37⟩⟩
  ·rintro y72 σ68 W69 ⟨φ73, fi71, f76, f77, f78, f79, f80, le74, hS75⟩ hb70
   have hm81 := jn_inl hm16 hX25 hb70
   have c82 : Hid (¬ ((↑(((↑p0.length : Int) : Int) - 0).toNat : Int) < (↑p0.length : Int))) := Hid.mk (lp_end0)
   refine CK.seq ?_
   refine CK.reg (ks := []) (.fl 0 (.nil)) rfl ?_
   refine OKS.r rfl rfl rfl rfl (fun _ => Runs.lss rfl fi71 f80) ?_
   refine OKS.e ?_
   refine thenQ_n ?_
   refine CK.seq ?_
   refine CK.condF (decF c82.out) ?_
   refine CK.exit ?_
   refine thenQ_e ?_
   refine thenQ_e ?_
   refine blockQ_h ?_
   refine thenQ_n ?_
   refine CK.seq ?_
   refine CK.reg (ks := []) (.fl 0 (.fl 1 (.fl 2 (.fl 3 (.fl 4 (.fx 5 (.fx 6 (.nil) .stop) .stop)))))) rfl ?_
   refine OKS.rm rfl rfl rfl rfl rfl f76 ?_
   refine OKS.r rfl rfl rfl rfl (fun _ => Runs.len rfl rfl Tryz.runUnderlying52) ?_
   refine OKS.r rfl rfl rfl rfl (fun _ => Runs.subw rfl rfl rfl) ?_
   refine OKS.rm rfl rfl rfl rfl rfl f78 ?_
   refine OKS.r rfl rfl rfl rfl (fun _ => Runs.build (pv := [(0, .int .i64 (w64 ((↑p0.length : Int) - 5))), (1, .int .i64 y72)]) (z := [.int .i64 0, .int .i64 0, .int .i64 0]) (cs := [.int .i64 (w64 ((↑p0.length : Int) - 5)), .int .i64 y72, .int .i64 0]) rfl (mapcons2 rfl (mapcons2 rfl mapnil2)) Tryz.zeroValue49 places49 rfl rfl) ?_
   refine OKS.alloc (cs := [.int .i64 0, .int .i64 0, .int .i64 0]) rfl rfl rfl rfl rfl Tryz.zeroValue49 rfl hS75 ?_
   intro W83 b84 hS85
   refine OKS.st (j := 0) (vs := [.int .i64 (w64 ((↑p0.length : Int) - 5)), .int .i64 y72, .int .i64 0]) rfl rfl rfl rfl hS85 rfl rfl rfl rfl Tryz.sizeOf49 (Nat.le_of_ble_eq_true rfl) rfl rfl rfl ?_
   intro W87 hS88
   have hS89 : St ⟨w, [], φ⟩ φ73 [.blk b84 49 [.int .i64 (w64 ((↑p0.length : Int) - 5)), .int .i64 y72, .int .i64 0], .blk b2 49 [.int .i64 0, .int .i64 0, .int .i64 0]] W87 := hS88
   refine OKS.e ?_
   refine thenQ_n ?_
   refine CK.seq ?_
   refine CK.seq ?_
   refine CK.reg (ks := []) (.fl 0 (.fl 1 (.nil))) rfl ?_
   refine OKS.rm rfl rfl rfl rfl rfl f78 ?_
   refine OKS.r rfl rfl rfl rfl (fun _ => Runs.gtr rfl rfl rfl) ?_
   refine OKS.e ?_
   refine thenQ_n ?_
   by_cases c90 : 0 < y72
   ·have hm91 := hm81; rw [if_pos c90] at hm91; replace c90 := Hid.mk c90
    refine CK.condT (decT c90.out) ?_
    refine CK.reg (ks := []) (.fl 0 (.fl 1 (.fl 2 (.fl 3 (.fx 4 (.nil) .stop))))) rfl ?_
    refine OKS.rm rfl rfl rfl rfl rfl f76 ?_
    refine OKS.r rfl rfl rfl rfl (fun _ => Runs.len rfl rfl Tryz.runUnderlying52) ?_
    refine OKS.r rfl rfl rfl rfl (fun _ => Runs.subw rfl rfl rfl) ?_
    refine OKS.r rfl rfl rfl rfl (fun _ => Runs.fa rfl rfl Tryz.runUnderlying49 rfl Tryz.sizeOf3) ?_
    refine OKS.st (j := 0) (vs := [.int .i64 (w64 (8 - (↑p0.length : Int)))]) rfl rfl rfl rfl hS89 rfl rfl rfl rfl Tryz.sizeOf3 (Nat.le_of_ble_eq_true rfl) rfl rfl rfl ?_
    intro W92 hS93
    have hS94 : St ⟨w, [], φ⟩ φ73 [.blk b84 49 [.int .i64 (w64 ((↑p0.length : Int) - 5)), .int .i64 y72, .int .i64 (w64 (8 - (↑p0.length : Int)))], .blk b2 49 [.int .i64 0, .int .i64 0, .int .i64 0]] W92 := hS93
    refine OKS.e ?_
    refine thenQ_n ?_
    refine CK.seq ?_
    refine CK.reg (ks := []) (.fl 0 (.fx 1 (.fl 2 (.nil)) .stop)) rfl ?_
    refine OKS.m rfl rfl rfl rfl (hS94.ldBA (j := 0) rfl rfl rfl Tryz.isAgg49 Tryz.sizeOf49 (vs := [.int .i64 (w64 ((↑p0.length : Int) - 5)), .int .i64 y72, .int .i64 (w64 (8 - (↑p0.length : Int)))]) rfl rfl) rfl ?_
    refine OKS.st (j := 1) (vs := [.int .i64 (w64 ((↑p0.length : Int) - 5)), .int .i64 y72, .int .i64 (w64 (8 - (↑p0.length : Int)))]) rfl rfl rfl rfl hS94 rfl f77 rfl rfl Tryz.sizeOf49 (Nat.le_of_ble_eq_true rfl) rfl rfl rfl ?_
    intro W95 hS96
    have hS97 : St ⟨w, [], φ⟩ φ73 [.blk b84 49 [.int .i64 (w64 ((↑p0.length : Int) - 5)), .int .i64 y72, .int .i64 (w64 (8 - (↑p0.length : Int)))], .blk b2 49 [.int .i64 (w64 ((↑p0.length : Int) - 5)), .int .i64 y72, .int .i64 (w64 (8 - (↑p0.length : Int)))]] W95 := hS96
    refine OKS.ra rfl rfl rfl rfl rfl rfl ?_
    refine OKS.e ?_
    refine thenQ_n ?_
    refine CK.ret ?_
    cases hm91
    exact ⟨rfl, _, (resLn (rs := [.cell 2 49, .tmp 3]) (vs := [.agg #[.int .i64 (w64 ((↑p0.length : Int) - 5)), .int .i64 y72, .int .i64 (w64 (8 - (↑p0.length : Int)))], .int .i64 0]) ⟨⟨_, f77, (ldvarA Tryz.isAgg49 Tryz.sizeOf49 (hS97.blkAt (k := 1) rfl) (vs := [.int .i64 (w64 ((↑p0.length : Int) - 5)), .int .i64 y72, .int .i64 (w64 (8 - (↑p0.length : Int)))]) rfl rfl)⟩, ⟨rfl, trivial⟩⟩ rfl), φ73, _, (hS97.pick [] _ (by decide) rfl), rfl, rfl⟩
   ·have hm98 := hm81; rw [if_neg c90] at hm98; replace c90 := Hid.mk c90
    refine CK.condF (decF c90.out) ?_
    refine CK.skip ?_
    refine thenQ_n ?_
    refine CK.seq ?_
    refine CK.reg (ks := []) (.fl 0 (.fx 1 (.fl 2 (.nil)) .stop)) rfl ?_
    refine OKS.m rfl rfl rfl rfl (hS89.ldBA (j := 0) rfl rfl rfl Tryz.isAgg49 Tryz.sizeOf49 (vs := [.int .i64 (w64 ((↑p0.length : Int) - 5)), .int .i64 y72, .int .i64 0]) rfl rfl) rfl ?_
    refine OKS.st (j := 1) (vs := [.int .i64 (w64 ((↑p0.length : Int) - 5)), .int .i64 y72, .int .i64 0]) rfl rfl rfl rfl hS89 rfl f77 rfl rfl Tryz.sizeOf49 (Nat.le_of_ble_eq_true rfl) rfl rfl rfl ?_
    intro W99 hS100
    have hS101 : St ⟨w, [], φ⟩ φ73 [.blk b84 49 [.int .i64 (w64 ((↑p0.length : Int) - 5)), .int .i64 y72, .int .i64 0], .blk b2 49 [.int .i64 (w64 ((↑p0.length : Int) - 5)), .int .i64 y72, .int .i64 0]] W99 := hS100
    refine OKS.ra rfl rfl rfl rfl rfl rfl ?_
    refine OKS.e ?_
    refine thenQ_n ?_
    refine CK.ret ?_
    cases hm98
    exact ⟨rfl, _, (resLn (rs := [.cell 2 49, .tmp 3]) (vs := [.agg #[.int .i64 (w64 ((↑p0.length : Int) - 5)), .int .i64 y72, .int .i64 0], .int .i64 0]) ⟨⟨_, f77, (ldvarA Tryz.isAgg49 Tryz.sizeOf49 (hS101.blkAt (k := 1) rfl) (vs := [.int .i64 (w64 ((↑p0.length : Int) - 5)), .int .i64 y72, .int .i64 0]) rfl rfl)⟩, ⟨rfl, trivial⟩⟩ rfl), φ73, _, (hS101.pick [] _ (by decide) rfl), rfl, rfl⟩
 ·have hm102 := hm7; rw [if_neg c15] at hm102; replace c15 := Hid.mk c15
  refine CK.condT (congrArg (fun b => Value.bool (!b)) (Bool.eq_false_iff.2 c15.out)) ?_
  refine CK.seq ?_
  refine CK.reg (ks := []) (.fl 0 (.fx 1 (.fl 2 (.nil)) .stop)) rfl ?_
  refine OKS.r rfl rfl rfl rfl (fun _ => Runs.build (pv := []) (z := [.int .i64 0, .int .i64 0, .int .i64 0]) (cs := [.int .i64 0, .int .i64 0, .int .i64 0]) rfl mapnil2 Tryz.zeroValue49 places49 rfl rfl) ?_
  refine OKS.st (j := 0) (vs := [.int .i64 0, .int .i64 0, .int .i64 0]) rfl rfl rfl rfl hS14 rfl rfl rfl rfl Tryz.sizeOf49 (Nat.le_of_ble_eq_true rfl) rfl rfl rfl ?_
  intro W103 hS104
  have hS105 : St ⟨w, [], φ⟩ φ8 [.blk b2 49 [.int .i64 0, .int .i64 0, .int .i64 0]] W103 := hS104
  refine OKS.ra rfl rfl rfl rfl rfl rfl ?_
  refine OKS.e ?_
  refine thenQ_n ?_
  refine CK.ret ?_
  refine thenQ_r ?_
  cases hm102
  exact ⟨rfl, _, (resLn (rs := [.cell 2 49, .tmp 3]) (vs := [.agg #[.int .i64 0, .int .i64 0, .int .i64 0], .int .i64 2]) ⟨⟨_, rfl, (ldvarA Tryz.isAgg49 Tryz.sizeOf49 (hS105.blkAt (k := 0) rfl) (vs := [.int .i64 0, .int .i64 0, .int .i64 0]) rfl rfl)⟩, ⟨rfl, trivial⟩⟩ rfl), φ8, _, (hS105.pick [] _ (by decide) rfl), rfl, rfl⟩

theorem w_klisterlaw08_awake (w : World) (φ : PHeap) (hS : St ⟨w, [], φ⟩ φ [] w) {r : Bool} (hm : m_klisterlaw08_awake = some r) : Gv Tryz.prog 27 [] w (RetS w [] φ (fun φ_ L_ v => v = .bool r ∧ L_ = [])) := by
  cases hm
  refine (xr27 w).mono ?_
  rintro v w' ⟨rfl, k⟩
  exact ⟨φ, [], hS.grow k, rfl, rfl⟩

set_option maxHeartbeats 4000000 in
theorem w_klisterlaw08_RelayTargets (p0 : List Int) (pA0 : Option Addr) (pc0 : Nat) (w : World) (φ : PHeap) (hS : St ⟨w, [], φ⟩ φ [] w) (ha0 : Sl φ 1 pA0 pc0 p0.length (List.flatMap encB8 p0)) {r : Bool} (hm : m_klisterlaw08_RelayTargets p0 = some r) : Gv Tryz.prog 5 [.slice pA0 p0.length pc0] w (RetS w [] φ (fun φ_ L_ v => v = .bool r ∧ L_ = [])) := by
 unfold m_klisterlaw08_RelayTargets at hm
 refine Gv.of Tryz.func5 rfl Tryz.ntmps5 Tryz.results5 rfl ?_
 refine CK.seq ?_
 refine CK.reg (ks := []) (.fl 0 (.nil)) rfl ?_
 refine OKS.ra rfl rfl rfl rfl rfl rfl ?_
 refine OKS.e ?_
 refine thenQ_n ?_
 refine CK.seq ?_
 refine CK.reg (ks := []) (.fl 0 (.fx 1 (.fl 2 (.nil)) .stop)) rfl ?_
 refine OKS.rm rfl rfl rfl rfl rfl rfl ?_
 have q := bnd hm
 obtain ⟨x1, h2, hm3⟩ := q
 refine OKS.callH 0 rfl rfl rfl rfl (Enters.mk rfl rfl Tryz.call16 (mapcons rfl mapnil) rfl) hS (fun hs => w_klisterkit_Of p0 pA0 pc0 w φ hs ha0 h2) (.inr rfl) ?_
 rintro φ4 L5 v6 W7 le8 hS9 ⟨b10, A11, c12, rfl, rfl, h14⟩
 have hS15 : St ⟨w, [], φ⟩ φ4 [.blk b10 194 [.slice A11 x1.bytes.length c12, .int .i64 x1.next, .int .u32 x1.state]] W7 := hS9
 refine OKS.ra rfl rfl rfl rfl rfl rfl ?_
 refine OKS.e ?_
 refine thenQ_n ?_
 refine CK.seq ?_
 refine CK.reg (ks := []) (.fl 0 (.fx 1 (.fl 2 (.nil)) .stop)) rfl ?_
 refine OKS.rm rfl rfl rfl rfl rfl rfl ?_
 have q := bnd hm3
 obtain ⟨⟨x16, x17⟩, h18, hm19⟩ := q
 try dsimp only at hm19
 refine OKS.callH 1 rfl rfl rfl rfl (Enters.mk rfl rfl Tryz.call40 (mapcons rfl (mapcons rfl mapnil)) rfl) hS15 (fun hs => w_klisterkit_Deck_Draw x1 b10 A11 c12 2 W7 φ4 hs h14 h18) (.inl rfl) ?_
 rintro φ20 L21 v22 W23 le24 hS25 ⟨A26, c27, rfl, rfl, h28⟩
 have hS29 : St ⟨w, [], φ⟩ φ20 [.blk b10 194 [.slice A26 x17.bytes.length c27, .int .i64 x17.next, .int .u32 x17.state]] W23 := hS25
 refine OKS.ra rfl rfl rfl rfl rfl rfl ?_
 refine OKS.e ?_
 refine thenQ_n ?_
 refine CK.seq ?_
 refine CK.reg (ks := []) (.fl 0 (.nil)) rfl ?_
 refine OKS.ra rfl rfl rfl rfl rfl rfl ?_
 refine OKS.e ?_
 refine thenQ_n ?_
 refine CK.seq ?_
 refine CK.seq ?_
 refine CK.reg (ks := []) (.fl 0 (.fx 1 (.fl 2 (.nil)) .stop)) rfl ?_
 refine OKS.rm rfl rfl rfl rfl rfl rfl ?_
 have q := bnd hm19
 obtain ⟨⟨x30, x31⟩, h32, hm33⟩ := q
 try dsimp only at hm33
 refine OKS.callH 1 rfl rfl rfl rfl (Enters.mk rfl rfl Tryz.call41 (mapcons rfl (mapcons rfl (mapcons rfl mapnil))) rfl) hS29 (fun hs => w_klisterkit_Deck_Between x17 b10 A26 c27 5 8 W23 φ20 hs h28 h32) (.inl rfl) ?_
 rintro φ34 L35 v36 W37 le38 hS39 ⟨A40, c41, rfl, rfl, h42⟩
 have hS43 : St ⟨w, [], φ⟩ φ34 [.blk b10 194 [.slice A40 x31.bytes.length c41, .int .i64 x31.next, .int .u32 x31.state]] W37 := hS39
 refine OKS.rm rfl rfl rfl rfl rfl rfl ?_
 refine OKS.e ?_
 refine thenQ_n ?_
 refine CK.block ?_
 have q := jn_some hm33
 obtain ⟨r79, hX80⟩ := q
 have q := forR_le hX80
 obtain ⟨hle81, hf82⟩ := q
 replace hle81 := Hid.mk hle81
 refine CK.forN (fun k78 (l70, x73, x74, l75) σ_ w_ => ∃ (φ_ : PHeap) (A71 : Option Addr) (c72 : Nat) (A76 : Option Addr) (c77 : Nat), σ_ 26 = .int .i64 (↑k78 : Int) ∧ σ_ 3 = .pointer (some ⟨b10, 0, none⟩) ∧ σ_ 4 = .int .i64 x16 ∧ σ_ 5 = .slice A76 l75.length c77 ∧ σ_ 25 = .int .i64 x30 ∧ PHeap.Le φ34 φ_ ∧ St ⟨w, [], φ⟩ φ_ [.blk b10 194 [.slice A71 l70.length c72, .int .i64 x73, .int .u32 x74]] w_ ∧ Sl φ_ 1 A71 c72 l70.length (List.flatMap encB8 l70) ∧ Sl φ_ 2 A76 c77 l75.length (List.flatMap encT_target_Shot l75)) hf82 ?_ ?_ ?_
 ·exact ⟨φ34, A40, c41, none, 0, rfl, rfl, rfl, rfl, rfl, (PHeap.Le.refl _), hS43, h42, (by first | exact Sl.nil _ _ _ _ | exact SlR.nil)⟩
 ·rintro k78 ⟨l70, x73, x74, l75⟩ xx85 σ83 W84 hk88 ⟨φ90, A71, c72, A76, c77, fi89, f93, f94, f95, f96, le91, hS92, h97, h98⟩ hx86 hb87
  try dsimp only at hx86
  have c99 : Hid ((↑k78 : Int) < x30) := Hid.mk (lp_lt0 hk88)
  replace hk88 := Hid.mk hk88
  have hi100 : Hid (w64 ((↑k78 : Int) + 1) = (↑(k78 + 1) : Int)) := Hid.mk (by have h1 := hle81.out; have h2 := c99.out; rw [w64_in] <;> omega)
  refine CK.seq ?_
  refine CK.reg (ks := []) (.fl 0 (.nil)) rfl ?_
  refine OKS.r rfl rfl rfl rfl (fun _ => Runs.lss rfl fi89 f96) ?_
  refine OKS.e ?_
  refine thenQ_n ?_
  refine CK.seq ?_
  refine CK.condT (decT c99.out) ?_
  refine CK.skip ?_
  refine thenQ_n ?_
  refine CK.seq ?_
  refine CK.block ?_
  refine CK.seq ?_
  refine CK.reg (ks := []) (.fl 0 (.fx 1 (.fl 2 (.fl 3 (.fx 4 (.fl 5 (.fx 6 (.fx 7 (.nil) .stop) .stop)) .stop))) .stop)) rfl ?_
  refine OKS.rm rfl rfl rfl rfl rfl f93 ?_
  have q := bnd hx86
  obtain ⟨⟨x101, x102⟩, h103, hm104⟩ := q
  try dsimp only at hm104
  refine OKS.callH 1 rfl rfl rfl rfl (Enters.mk rfl rfl Tryz.call40 (mapcons rfl (mapcons rfl mapnil)) rfl) hS92 (fun hs => w_klisterkit_Deck_Draw (⟨l70, x73, x74⟩ : T_klisterkit_Deck) b10 A71 c72 5 W84 φ90 hs h97 h103) (.inl rfl) ?_
  rintro φ105 L106 v107 W108 le109 hS110 ⟨A111, c112, rfl, rfl, h113⟩
  have hS114 : St ⟨w, [], φ⟩ φ105 [.blk b10 194 [.slice A111 x102.bytes.length c112, .int .i64 x102.next, .int .u32 x102.state]] W108 := hS110
  refine OKS.r rfl rfl rfl rfl (fun _ => Runs.mulw rfl rfl rfl) ?_
  refine OKS.rm rfl rfl rfl rfl rfl f93 ?_
  have q := bnd hm104
  obtain ⟨⟨x115, x116⟩, h117, hm118⟩ := q
  try dsimp only at hm118
  refine OKS.callH 1 rfl rfl rfl rfl (Enters.mk rfl rfl Tryz.call41 (mapcons rfl (mapcons rfl (mapcons rfl mapnil))) rfl) hS114 (fun hs => w_klisterkit_Deck_Between x102 b10 A111 c112 (-300) 300 W108 φ105 hs h113 h117) (.inl rfl) ?_
  rintro φ119 L120 v121 W122 le123 hS124 ⟨A125, c126, rfl, rfl, h127⟩
  have hS128 : St ⟨w, [], φ⟩ φ119 [.blk b10 194 [.slice A125 x116.bytes.length c126, .int .i64 x116.next, .int .u32 x116.state]] W122 := hS124
  refine OKS.r rfl rfl rfl rfl (fun _ => Runs.build (pv := [(0, .int .i64 (w64 (2500 * x101))), (1, .int .i64 x115)]) (z := [.int .i64 0, .int .i64 0]) (cs := [.int .i64 (w64 (2500 * x101)), .int .i64 x115]) rfl (mapcons2 rfl (mapcons2 rfl mapnil2)) Tryz.zeroValue83 places83 rfl rfl) ?_
  refine OKS.alloc (cs := [.int .i64 0, .int .i64 0]) rfl rfl rfl rfl rfl Tryz.zeroValue83 rfl hS128 ?_
  intro W129 b130 hS131
  refine OKS.st (j := 0) (vs := [.int .i64 (w64 (2500 * x101)), .int .i64 x115]) rfl rfl rfl rfl hS131 rfl rfl rfl rfl Tryz.sizeOf83 (Nat.le_of_ble_eq_true rfl) rfl rfl rfl ?_
  intro W133 hS134
  have hS135 : St ⟨w, [], φ⟩ φ119 [.blk b130 83 [.int .i64 (w64 (2500 * x101)), .int .i64 x115], .blk b10 194 [.slice A125 x116.bytes.length c126, .int .i64 x116.next, .int .u32 x116.state]] W133 := hS134
  refine OKS.e ?_
  refine thenQ_n ?_
  refine CK.seq ?_
  refine CK.anyOrd Tryz.mixed [3, 1004, 3, 1005, 3, 3, 0, b10] (.fl 0 (.fl 1 (.fl 2 (.fx 3 (.fl 4 (.fl 5 (.fx 6 (.nil) .stop))) .stop)))) (by kernel_rfl) ?_
  have hS155 := hS135.drew
  generalize hw_W156 : ({ W133 with drawn := W133.drawn + 1 } : World) = W156 at hS155 ⊢
  refine OKS.r rfl rfl rfl rfl (fun _ => Runs.fa rfl rfl Tryz.runUnderlying83 rfl Tryz.sizeOf3) ?_
  refine OKS.mt (T := [b10]) [1] [0] [.blk b130 83 [.int .i64 (w64 (2500 * x101)), .int .i64 x115]] rfl rfl rfl rfl hS155 rfl ⟨⟨1, by decide, _, rfl, rfl⟩, trivial⟩ (by decide) rfl (by decide) (fun _ hZ157 => (hZ157.ldB (j := 0) rfl rfl rfl Tryz.isAgg3 (v := .int .i64 (w64 (2500 * x101))) rfl)) rfl ?_
  refine OKS.rm rfl rfl rfl rfl rfl f93 ?_
  have q := bnd hm118
  obtain ⟨⟨x158, x159⟩, h160, hm161⟩ := q
  try dsimp only at hm161
  have hS162 : St ⟨w, [], φ⟩ φ119 [.blk b10 194 [.slice A125 x116.bytes.length c126, .int .i64 x116.next, .int .u32 x116.state], .blk b130 83 [.int .i64 (w64 (2500 * x101)), .int .i64 x115]] W156 := hS155.pick [1, 0] _ (by decide) rfl
  refine OKS.callHT 1 rfl rfl rfl rfl (Enters.mk rfl rfl Tryz.call41 (mapcons rfl (mapcons rfl (mapcons rfl mapnil))) rfl) hS162 (fun hs => w_klisterkit_Deck_Between x116 b10 A125 c126 (-300) 300 W156 φ119 hs h127 h160) rfl (T := [b10]) rfl ⟨fun b h => (by cases h; exact .head _), trivial⟩ ?_
  rintro φ163 L164 v165 W166 le167 hS168 ⟨A169, c170, rfl, rfl, h171⟩
  have hS172 : St ⟨w, [], φ⟩ φ163 [.blk b10 194 [.slice A169 x159.bytes.length c170, .int .i64 x159.next, .int .u32 x159.state], .blk b130 83 [.int .i64 (w64 (2500 * x101)), .int .i64 x115]] W166 := hS168
  refine OKS.r rfl rfl rfl rfl (fun _ => Runs.addw rfl rfl rfl) ?_
  refine OKS.r rfl rfl rfl rfl (fun _ => Runs.fa rfl rfl Tryz.runUnderlying83 rfl Tryz.sizeOf3) ?_
  refine OKS.st (j := 1) (vs := [.int .i64 (w64 ((w64 (2500 * x101)) + x158))]) rfl rfl rfl rfl hS172 rfl rfl rfl rfl Tryz.sizeOf3 (Nat.le_of_ble_eq_true rfl) rfl rfl rfl ?_
  intro W173 hS174
  have hS175 : St ⟨w, [], φ⟩ φ163 [.blk b10 194 [.slice A169 x159.bytes.length c170, .int .i64 x159.next, .int .u32 x159.state], .blk b130 83 [.int .i64 (w64 ((w64 (2500 * x101)) + x158)), .int .i64 x115]] W173 := hS174
  refine OKS.e ?_
  refine thenQ_n ?_
  have q := bnd hm161
  obtain ⟨l176, hx180, hm181⟩ := q
  refine CK.cut (fun σ_ w_ => ∃ (φ_ : PHeap) (A177 : Option Addr) (c178 : Nat), σ_ 3 = .pointer (some ⟨b10, 0, none⟩) ∧ σ_ 4 = .int .i64 x16 ∧ σ_ 5 = .slice A76 l75.length c77 ∧ σ_ 7 = .slice A177 l176.length c178 ∧ σ_ 25 = .int .i64 x30 ∧ σ_ 26 = .int .i64 (↑k78 : Int) ∧ PHeap.Le φ163 φ_ ∧ St ⟨w, [], φ⟩ φ_ [.blk b10 194 [.slice A169 x159.bytes.length c170, .int .i64 x159.next, .int .u32 x159.state], .blk b130 83 [.int .i64 (w64 ((w64 (2500 * x101)) + x158)), .int .i64 x115], .row A177 c178 83 2 (List.flatMap encT_target_Shot l176)] w_) ?_ ?_
  ·have q := bnd hx180
   obtain ⟨x185, h186, hm211⟩ := q
   have q := bnd hm211
   obtain ⟨x203, h204, hm212⟩ := q
   refine CK.anyOrd Tryz.mixed [3, 2, 1, 2, 0, 3] (.fl 0 (.fl 2 (.fx 1 (.fx 3 (.fx 4 (.fl 5 (.nil)) (.stop)) (.stop)) (.fx 3 (.fx 1 (.fx 4 (.fl 5 (.nil)) (.stop)) (.stop)) (.stop))))) (by kernel_rfl) ?_
   have hS213 := hS175.drew
   generalize hw_W214 : ({ W173 with drawn := W173.drawn + 1 } : World) = W214 at hS213 ⊢
   refine OKS.rm rfl rfl rfl rfl rfl f95 ?_
   refine OKS.m rfl rfl rfl rfl (hS213.ldBA (j := 1) rfl rfl rfl Tryz.isAgg83 Tryz.sizeOf83 (vs := [.int .i64 (w64 ((w64 (2500 * x101)) + x158)), .int .i64 x115]) rfl rfl) rfl ?_
   refine OKS.both ?_ ?_
   ·have h215 := h98.le le109
    have h216 := h215.le le123
    have h217 := h216.le le167
    refine OKS.callH 0 rfl rfl rfl rfl (Enters.mk rfl rfl Tryz.call42 (mapcons rfl mapnil) rfl) hS213 (fun hs => w_klisterkit_Clone_target_Shot l75 A76 c77 W214 φ163 hs h217 h186) (.inr rfl) ?_
    rintro φ219 L220 v221 W222 le223 hS224 ⟨A225, c226, rfl, rfl⟩
    have hS228 : St ⟨w, [], φ⟩ φ219 [.row A225 c226 83 2 (List.flatMap encT_target_Shot x185), .blk b10 194 [.slice A169 x159.bytes.length c170, .int .i64 x159.next, .int .u32 x159.state], .blk b130 83 [.int .i64 (w64 ((w64 (2500 * x101)) + x158)), .int .i64 x115]] W222 := hS224
    refine OKS.buildSlice (pv := [(0, .agg #[.int .i64 (w64 ((w64 (2500 * x101)) + x158)), .int .i64 x115])]) (zs := [.int .i64 0, .int .i64 0]) (cs := [.int .i64 (w64 ((w64 (2500 * x101)) + x158)), .int .i64 x115]) rfl rfl rfl rfl rfl (mapcons2 rfl mapnil2) Tryz.runUnderlying81 Tryz.sizeOf83 Tryz.zeroValue83 rfl rfl rfl rfl rfl hS228 ?_
    intro W229 b230 hS231
    have hS233 : St ⟨w, [], φ⟩ φ219 [.row (some ⟨b230, 0, none⟩) 1 83 2 (List.flatMap encT_target_Shot [(⟨w64 ((w64 (2500 * x101)) + x158), x115⟩ : T_target_Shot)]), .row A225 c226 83 2 (List.flatMap encT_target_Shot x185), .blk b10 194 [.slice A169 x159.bytes.length c170, .int .i64 x159.next, .int .u32 x159.state], .blk b130 83 [.int .i64 (w64 ((w64 (2500 * x101)) + x158)), .int .i64 x115]] W229 := hS231
    refine OKS.append (j := 1) (enc := encT_target_Shot) (xs := x185) (ys := [(⟨w64 ((w64 (2500 * x101)) + x158), x115⟩ : T_target_Shot)]) (zs := x203) rfl rfl rfl rfl rfl Tryz.underlying81 info83 rfl rfl rfl rfl rfl rfl hS233 rfl rfl rfl (hS233.srcR (j := 0) rfl (by decide) (flatMap_len (f := encT_target_Shot) (sz := 2) (fun _ => rfl) [(⟨w64 ((w64 (2500 * x101)) + x158), x115⟩ : T_target_Shot)])) (fun _ => rfl) (fun _ => rfl) h204 rfl ?_
    intro A234 c235 W236 hS237
    have hS238 : St ⟨w, [], φ⟩ φ219 [.row (some ⟨b230, 0, none⟩) 1 83 2 (List.flatMap encT_target_Shot [(⟨w64 ((w64 (2500 * x101)) + x158), x115⟩ : T_target_Shot)]), .row A234 c235 83 2 (List.flatMap encT_target_Shot x203), .blk b10 194 [.slice A169 x159.bytes.length c170, .int .i64 x159.next, .int .u32 x159.state], .blk b130 83 [.int .i64 (w64 ((w64 (2500 * x101)) + x158)), .int .i64 x115]] W236 := hS237
    refine OKS.ra rfl rfl rfl rfl rfl rfl ?_
    refine OKS.e ?_
    cases hm212
    exact thenQ_n ⟨rfl, ⟨φ219, A234, c235, f93, f94, f95, rfl, f96, fi89, le223, (hS238.pick [2, 3, 1] _ (by decide) rfl)⟩⟩
   ·refine OKS.buildSlice (pv := [(0, .agg #[.int .i64 (w64 ((w64 (2500 * x101)) + x158)), .int .i64 x115])]) (zs := [.int .i64 0, .int .i64 0]) (cs := [.int .i64 (w64 ((w64 (2500 * x101)) + x158)), .int .i64 x115]) rfl rfl rfl rfl rfl (mapcons2 rfl mapnil2) Tryz.runUnderlying81 Tryz.sizeOf83 Tryz.zeroValue83 rfl rfl rfl rfl rfl hS213 ?_
    intro W242 b243 hS244
    have hS246 : St ⟨w, [], φ⟩ φ163 [.row (some ⟨b243, 0, none⟩) 1 83 2 (List.flatMap encT_target_Shot [(⟨w64 ((w64 (2500 * x101)) + x158), x115⟩ : T_target_Shot)]), .blk b10 194 [.slice A169 x159.bytes.length c170, .int .i64 x159.next, .int .u32 x159.state], .blk b130 83 [.int .i64 (w64 ((w64 (2500 * x101)) + x158)), .int .i64 x115]] W242 := hS244
    have h247 := h98.le le109
    have h248 := h247.le le123
    have h249 := h248.le le167
    refine OKS.callH 0 rfl rfl rfl rfl (Enters.mk rfl rfl Tryz.call42 (mapcons rfl mapnil) rfl) hS246 (fun hs => w_klisterkit_Clone_target_Shot l75 A76 c77 W242 φ163 hs h249 h186) (.inr rfl) ?_
    rintro φ251 L252 v253 W254 le255 hS256 ⟨A257, c258, rfl, rfl⟩
    have hS260 : St ⟨w, [], φ⟩ φ251 [.row A257 c258 83 2 (List.flatMap encT_target_Shot x185), .row (some ⟨b243, 0, none⟩) 1 83 2 (List.flatMap encT_target_Shot [(⟨w64 ((w64 (2500 * x101)) + x158), x115⟩ : T_target_Shot)]), .blk b10 194 [.slice A169 x159.bytes.length c170, .int .i64 x159.next, .int .u32 x159.state], .blk b130 83 [.int .i64 (w64 ((w64 (2500 * x101)) + x158)), .int .i64 x115]] W254 := hS256
    refine OKS.append (j := 0) (enc := encT_target_Shot) (xs := x185) (ys := [(⟨w64 ((w64 (2500 * x101)) + x158), x115⟩ : T_target_Shot)]) (zs := x203) rfl rfl rfl rfl rfl Tryz.underlying81 info83 rfl rfl rfl rfl rfl rfl hS260 rfl rfl rfl (hS260.srcR (j := 1) rfl (by decide) (flatMap_len (f := encT_target_Shot) (sz := 2) (fun _ => rfl) [(⟨w64 ((w64 (2500 * x101)) + x158), x115⟩ : T_target_Shot)])) (fun _ => rfl) (fun _ => rfl) h204 rfl ?_
    intro A261 c262 W263 hS264
    have hS265 : St ⟨w, [], φ⟩ φ251 [.row A261 c262 83 2 (List.flatMap encT_target_Shot x203), .row (some ⟨b243, 0, none⟩) 1 83 2 (List.flatMap encT_target_Shot [(⟨w64 ((w64 (2500 * x101)) + x158), x115⟩ : T_target_Shot)]), .blk b10 194 [.slice A169 x159.bytes.length c170, .int .i64 x159.next, .int .u32 x159.state], .blk b130 83 [.int .i64 (w64 ((w64 (2500 * x101)) + x158)), .int .i64 x115]] W263 := hS264
    refine OKS.ra rfl rfl rfl rfl rfl rfl ?_
    refine OKS.e ?_
    cases hm212
    exact thenQ_n ⟨rfl, ⟨φ251, A261, c262, f93, f94, f95, rfl, f96, fi89, le255, (hS265.pick [2, 3, 0] _ (by decide) rfl)⟩⟩
  ·rintro σ269 W270 ⟨φ271, A177, c178, f274, f275, f276, f277, f278, f279, le272, hS273⟩
   refine CK.seq ?_
   refine CK.seq ?_
   refine CK.reg (ks := []) (.fl 0 (.fl 1 (.fx 2 (.fl 3 (.fl 4 (.fl 5 (.fl 6 (.fl 7 (.nil)))))) .stop))) rfl ?_
   refine OKS.rm rfl rfl rfl rfl rfl f275 ?_
   refine OKS.rm rfl rfl rfl rfl rfl f277 ?_
   have q := hS273.freezeR (k := 2) (n := l176.length) rfl (flatMap_len (f := encT_target_Shot) (sz := 2) (fun _ => rfl) l176) (by decide)
   obtain ⟨φ280, le281, hs282, hS283⟩ := q
   have hS284 : St ⟨w, [], φ⟩ φ280 [.blk b10 194 [.slice A169 x159.bytes.length c170, .int .i64 x159.next, .int .u32 x159.state], .blk b130 83 [.int .i64 (w64 ((w64 (2500 * x101)) + x158)), .int .i64 x115]] W270 := hS283
   have q := bnd hm181
   obtain ⟨⟨x285, x286⟩, h287, hm288⟩ := q
   try dsimp only at hm288
   refine OKS.callH 0 rfl rfl rfl rfl (Enters.mk rfl rfl Tryz.call43 (mapcons rfl (mapcons rfl mapnil)) rfl) hS284 (fun hs => w_target_Falls x16 l176 A177 c178 W270 φ280 hs hs282 h287) (.inr rfl) ?_
   rintro φ289 L290 v291 W292 le293 hS294 ⟨A295, c296, rfl, rfl⟩
   have hS298 : St ⟨w, [], φ⟩ φ289 [.row A295 c296 3 1 (List.flatMap encI x285), .blk b10 194 [.slice A169 x159.bytes.length c170, .int .i64 x159.next, .int .u32 x159.state], .blk b130 83 [.int .i64 (w64 ((w64 (2500 * x101)) + x158)), .int .i64 x115]] W292 := hS294
   refine OKS.rm rfl rfl rfl rfl rfl rfl ?_
   refine OKS.r rfl rfl rfl rfl (fun _ => Runs.ext rfl rfl (v := .slice A295 x285.length c296) rfl) ?_
   refine OKS.r rfl rfl rfl rfl (fun _ => Runs.ext rfl rfl (v := .int .i64 x286) rfl) ?_
   refine OKS.ra rfl rfl rfl rfl rfl rfl ?_
   refine OKS.ra rfl rfl rfl rfl rfl rfl ?_
   refine OKS.e ?_
   refine thenQ_n ?_
   refine CK.seq ?_
   refine CK.reg (ks := []) (.fl 0 (.fl 1 (.nil))) rfl ?_
   refine OKS.rm rfl rfl rfl rfl rfl rfl ?_
   refine OKS.r rfl rfl rfl rfl (fun _ => Runs.neq rfl rfl rfl) ?_
   refine OKS.e ?_
   refine thenQ_n ?_
   by_cases c299 : x286 = 0
   ·have hm300 := hm288; rw [if_pos c299] at hm300; replace c299 := Hid.mk c299
    refine CK.condF (decF (fun h => h c299.out)) ?_
    refine CK.skip ?_
    refine thenQ_n ?_
    refine CK.reg (ks := []) (.fl 0 (.fl 1 (.nil))) rfl ?_
    refine OKS.rm rfl rfl rfl rfl rfl f277 ?_
    refine OKS.ra rfl rfl rfl rfl rfl rfl ?_
    refine OKS.e ?_
    refine blockQ_n ?_
    refine thenQ_n ?_
    refine CK.reg (ks := []) (.fl 0 (.fl 1 (.nil))) rfl ?_
    refine OKS.r rfl rfl rfl rfl (fun _ => Runs.to (Runs.addw rfl f279 rfl) (congrArg (Value.int .i64) hi100.out)) ?_
    refine OKS.rm rfl rfl rfl rfl rfl rfl ?_
    refine OKS.e ?_
    obtain rfl := Option.some.inj hm300
    have h309 := h171.le le272
    have h310 := h309.le le281
    have h311 := h310.le le293
    have h312 := hs282.le le293
    exact thenQ_n ⟨rfl, _, rfl, ⟨φ289, A169, c170, A177, c178, rfl, f274, f275, rfl, f278, ((((((le91.trans le109).trans le123).trans le167).trans le272).trans le281).trans le293), (hS298.pick [1] _ (by decide) rfl), h311, h312⟩⟩
   ·have hm313 := hm288; rw [if_neg c299] at hm313; replace c299 := Hid.mk c299
    refine CK.condT (decT c299.out) ?_
    refine CK.exit ?_
    refine thenQ_e ?_
    refine blockQ_m ?_
    refine thenQ_e ?_
    have q := esc_spec hm313
    obtain ⟨v314, hm315, e316⟩ := q
    obtain rfl := jn_inr hm33 hX80 (hb87 v314 e316)
    refine thenQ_e ?_
    refine blockQ_h ?_
    refine thenQ_n ?_
    refine CK.seq ?_
    refine CK.reg (ks := []) (.fl 0 (.fl 1 (.fx 2 (.fl 3 (.fl 4 (.fl 5 (.fl 6 (.fl 7 (.nil)))))) .stop))) rfl ?_
    refine OKS.rm rfl rfl rfl rfl rfl f275 ?_
    refine OKS.rm rfl rfl rfl rfl rfl f276 ?_
    have h317 := h98.le le109
    have h318 := h317.le le123
    have h319 := h318.le le167
    have h320 := h319.le le272
    have h321 := h320.le le281
    have h322 := h321.le le293
    have q := bnd hm315
    obtain ⟨⟨x323, x324⟩, h325, hm326⟩ := q
    try dsimp only at hm326
    refine OKS.callH 0 rfl rfl rfl rfl (Enters.mk rfl rfl Tryz.call43 (mapcons rfl (mapcons rfl mapnil)) rfl) hS298 (fun hs => w_target_Falls x16 l75 A76 c77 W292 φ289 hs h322 h325) (.inr rfl) ?_
    rintro φ327 L328 v329 W330 le331 hS332 ⟨A333, c334, rfl, rfl⟩
    have hS336 : St ⟨w, [], φ⟩ φ327 [.row A333 c334 3 1 (List.flatMap encI x323), .row A295 c296 3 1 (List.flatMap encI x285), .blk b10 194 [.slice A169 x159.bytes.length c170, .int .i64 x159.next, .int .u32 x159.state], .blk b130 83 [.int .i64 (w64 ((w64 (2500 * x101)) + x158)), .int .i64 x115]] W330 := hS332
    refine OKS.rm rfl rfl rfl rfl rfl rfl ?_
    refine OKS.r rfl rfl rfl rfl (fun _ => Runs.ext rfl rfl (v := .slice A333 x323.length c334) rfl) ?_
    refine OKS.r rfl rfl rfl rfl (fun _ => Runs.ext rfl rfl (v := .int .i64 x324) rfl) ?_
    refine OKS.ra rfl rfl rfl rfl rfl rfl ?_
    refine OKS.ra rfl rfl rfl rfl rfl rfl ?_
    refine OKS.e ?_
    refine thenQ_n ?_
    refine CK.seq ?_
    refine CK.reg (ks := []) (.fl 0 (.fl 1 (.fx 2 (.fl 3 (.fl 4 (.fl 5 (.fl 6 (.fl 7 (.nil)))))) .stop))) rfl ?_
    refine OKS.rm rfl rfl rfl rfl rfl f275 ?_
    refine OKS.rm rfl rfl rfl rfl rfl f276 ?_
    have h337 := h322.le le331
    have q := bnd hm326
    obtain ⟨⟨x338, x339⟩, h340, hm341⟩ := q
    try dsimp only at hm341
    refine OKS.callH 0 rfl rfl rfl rfl (Enters.mk rfl rfl Tryz.call44 (mapcons rfl (mapcons rfl mapnil)) rfl) hS336 (fun hs => w_target_Loops x16 l75 A76 c77 W330 φ327 hs h337 h340) (.inr rfl) ?_
    rintro φ342 L343 v344 W345 le346 hS347 ⟨rfl, rfl⟩
    have hS348 : St ⟨w, [], φ⟩ φ342 [.row A333 c334 3 1 (List.flatMap encI x323), .row A295 c296 3 1 (List.flatMap encI x285), .blk b10 194 [.slice A169 x159.bytes.length c170, .int .i64 x159.next, .int .u32 x159.state], .blk b130 83 [.int .i64 (w64 ((w64 (2500 * x101)) + x158)), .int .i64 x115]] W345 := hS347
    refine OKS.rm rfl rfl rfl rfl rfl rfl ?_
    refine OKS.r rfl rfl rfl rfl (fun _ => Runs.ext rfl rfl (v := .int .i64 x338) rfl) ?_
    refine OKS.r rfl rfl rfl rfl (fun _ => Runs.ext rfl rfl (v := .int .i64 x339) rfl) ?_
    refine OKS.ra rfl rfl rfl rfl rfl rfl ?_
    refine OKS.ra rfl rfl rfl rfl rfl rfl ?_
    refine OKS.e ?_
    refine thenQ_n ?_
    refine CK.seq ?_
    refine CK.reg (ks := []) (.fl 0 (.fl 1 (.fx 2 (.fl 3 (.fl 4 (.fl 5 (.fl 6 (.fl 7 (.nil)))))) .stop))) rfl ?_
    refine OKS.rm rfl rfl rfl rfl rfl f275 ?_
    refine OKS.rm rfl rfl rfl rfl rfl f276 ?_
    have h349 := h337.le le346
    have q := bnd hm341
    obtain ⟨⟨x350, x351⟩, h352, hm353⟩ := q
    try dsimp only at hm353
    refine OKS.callH 0 rfl rfl rfl rfl (Enters.mk rfl rfl Tryz.call45 (mapcons rfl (mapcons rfl mapnil)) rfl) hS348 (fun hs => w_target_Spares x16 l75 A76 c77 W345 φ342 hs h349 h352) (.inr rfl) ?_
    rintro φ354 L355 v356 W357 le358 hS359 ⟨rfl, rfl⟩
    have hS360 : St ⟨w, [], φ⟩ φ354 [.row A333 c334 3 1 (List.flatMap encI x323), .row A295 c296 3 1 (List.flatMap encI x285), .blk b10 194 [.slice A169 x159.bytes.length c170, .int .i64 x159.next, .int .u32 x159.state], .blk b130 83 [.int .i64 (w64 ((w64 (2500 * x101)) + x158)), .int .i64 x115]] W357 := hS359
    refine OKS.rm rfl rfl rfl rfl rfl rfl ?_
    refine OKS.r rfl rfl rfl rfl (fun _ => Runs.ext rfl rfl (v := .int .i64 x350) rfl) ?_
    refine OKS.r rfl rfl rfl rfl (fun _ => Runs.ext rfl rfl (v := .int .i64 x351) rfl) ?_
    refine OKS.ra rfl rfl rfl rfl rfl rfl ?_
    refine OKS.ra rfl rfl rfl rfl rfl rfl ?_
    refine OKS.e ?_
    refine thenQ_n ?_
    refine CK.seq ?_
    refine CK.seq ?_
    refine CK.fresh fun σ361 hσ362 => ?_
    have f363 : σ361 5 = .slice A76 l75.length c77 := (hσ362 5).trans f276
    have f364 : σ361 10 = .slice A333 x323.length c334 := (hσ362 10).trans rfl
    have f365 : σ361 11 = .int .i64 x324 := (hσ362 11).trans rfl
    have f366 : σ361 12 = .int .i64 x338 := (hσ362 12).trans rfl
    have f367 : σ361 13 = .int .i64 x339 := (hσ362 13).trans rfl
    have f368 : σ361 14 = .int .i64 x350 := (hσ362 14).trans rfl
    have f369 : σ361 15 = .int .i64 x351 := (hσ362 15).trans rfl
    clear hσ362
    refine CK.reg (ks := []) (.fl 0 (.fl 1 (.fl 2 (.fl 3 (.fl 4 (.fl 5 (.fl 6 (.fl 7 (.fl 8 (.fl 9 (.fl 10 (.fl 11 (.fl 12 (.fl 13 (.fl 14 (.fl 15 (.fl 16 (.fl 17 (.fl 18 (.fl 19 (.fl 20 (.fl 21 (.nil))))))))))))))))))))))) rfl ?_
    refine OKS.rm rfl rfl rfl rfl rfl f365 ?_
    refine OKS.r rfl rfl rfl rfl (fun _ => Runs.neq rfl rfl rfl) ?_
    refine OKS.rm rfl rfl rfl rfl rfl rfl ?_
    by_cases c370 : x324 = 0
    ·have hm371 := hm353; rw [if_pos c370] at hm371; replace c370 := Hid.mk c370
     refine OKS.rm rfl rfl rfl (wantedY rfl rfl (decF (fun h => h c370.out))) rfl f367 ?_
     refine OKS.r rfl rfl rfl (wantedY rfl rfl (decF (fun h => h c370.out))) (fun _ => Runs.neq rfl rfl rfl) ?_
     refine OKS.r rfl rfl rfl rfl (fun _ => Runs.pickF rfl (decF (fun h => h c370.out)) rfl) ?_
     refine OKS.rm rfl rfl rfl rfl rfl rfl ?_
     by_cases c372 : x339 = 0
     ·have hm373 := hm371; rw [if_pos c372] at hm373; replace c372 := Hid.mk c372
      refine OKS.rm rfl rfl rfl (wantedY rfl rfl (decF (fun h => h c372.out))) rfl f369 ?_
      refine OKS.r rfl rfl rfl (wantedY rfl rfl (decF (fun h => h c372.out))) (fun _ => Runs.neq rfl rfl rfl) ?_
      refine OKS.r rfl rfl rfl rfl (fun _ => Runs.pickF rfl (decF (fun h => h c372.out)) rfl) ?_
      refine OKS.rm rfl rfl rfl rfl rfl rfl ?_
      by_cases c374 : x351 = 0
      ·have hm375 := hm373; rw [if_pos c374] at hm375; replace c374 := Hid.mk c374
       refine OKS.rm rfl rfl rfl (wantedY rfl rfl (decF (fun h => h c374.out))) rfl f364 ?_
       refine OKS.r rfl rfl rfl (wantedY rfl rfl (decF (fun h => h c374.out))) (fun _ => Runs.len rfl rfl Tryz.runUnderlying23) ?_
       refine OKS.rm rfl rfl rfl (wantedY rfl rfl (decF (fun h => h c374.out))) rfl f363 ?_
       refine OKS.r rfl rfl rfl (wantedY rfl rfl (decF (fun h => h c374.out))) (fun _ => Runs.len rfl rfl Tryz.runUnderlying81) ?_
       refine OKS.r rfl rfl rfl (wantedY rfl rfl (decF (fun h => h c374.out))) (fun _ => Runs.neq rfl rfl rfl) ?_
       refine OKS.r rfl rfl rfl rfl (fun _ => Runs.pickF rfl (decF (fun h => h c374.out)) rfl) ?_
       refine OKS.rm rfl rfl rfl rfl rfl rfl ?_
       by_cases c376 : (↑x323.length : Int) = (↑l75.length : Int)
       ·have hm377 := hm375; rw [if_pos c376] at hm377; replace c376 := Hid.mk c376
        refine OKS.rm rfl rfl rfl (wantedY rfl rfl (decF (fun h => h c376.out))) rfl f363 ?_
        refine OKS.r rfl rfl rfl (wantedY rfl rfl (decF (fun h => h c376.out))) (fun _ => Runs.len rfl rfl Tryz.runUnderlying81) ?_
        refine OKS.r rfl rfl rfl (wantedY rfl rfl (decF (fun h => h c376.out))) (fun _ => Runs.lss rfl rfl rfl) ?_
        refine OKS.r rfl rfl rfl rfl (fun _ => Runs.pickF rfl (decF (fun h => h c376.out)) rfl) ?_
        refine OKS.e ?_
        refine thenQ_n ?_
        by_cases c378 : (↑l75.length : Int) < 5
        ·have hm379 := hm377; rw [if_pos c378] at hm379; replace c378 := Hid.mk c378
         refine CK.condT (decT c378.out) ?_
         refine CK.seq ?_
         refine CK.reg (ks := []) (.fl 0 (.nil)) rfl ?_
         refine OKS.ra rfl rfl rfl rfl rfl rfl ?_
         refine OKS.e ?_
         refine thenQ_n ?_
         refine CK.ret ?_
         refine thenQ_r ?_
         have hE := Option.some.inj hm379; first | subst r | cases hE
         exact ⟨rfl, _, (res1 rfl), φ354, _, (hS360.pick [] _ (by decide) rfl), rfl, rfl⟩
        ·have hm380 := hm377; rw [if_neg c378] at hm380; replace c378 := Hid.mk c378
         refine CK.condF (decF c378.out) ?_
         refine CK.skip ?_
         refine thenQ_n ?_
         refine CK.seq ?_
         refine CK.reg (ks := []) (.fl 0 (.nil)) rfl ?_
         refine OKS.ra rfl rfl rfl rfl rfl rfl ?_
         refine OKS.e ?_
         refine thenQ_n ?_
         refine CK.seq ?_
         refine CK.seq ?_
         refine CK.reg (ks := []) (.fl 0 (.fl 1 (.fl 2 (.nil)))) rfl ?_
         refine OKS.rm rfl rfl rfl rfl rfl f364 ?_
         refine OKS.r rfl rfl rfl rfl (fun _ => Runs.len rfl rfl Tryz.runUnderlying23) ?_
         refine OKS.rm rfl rfl rfl rfl rfl rfl ?_
         refine OKS.e ?_
         refine thenQ_n ?_
         refine CK.block ?_
         have q := bnd hm380
         obtain ⟨y403, hf400, hm399⟩ := q
         have q := forR'_le hf400
         obtain ⟨hle401, hf402⟩ := q
         replace hle401 := Hid.mk hle401
         refine CK.forN' (fun k398 l394 σ_ w_ => ∃ (φ_ : PHeap) (A395 : Option Addr) (c396 : Nat), σ_ 97 = .int .i64 (↑k398 : Int) ∧ σ_ 5 = .slice A76 l75.length c77 ∧ σ_ 12 = .int .i64 x338 ∧ σ_ 14 = .int .i64 x350 ∧ σ_ 16 = .slice A395 l394.length c396 ∧ σ_ 95 = .slice A333 x323.length c334 ∧ σ_ 96 = .int .i64 (↑x323.length : Int) ∧ PHeap.Le φ354 φ_ ∧ St ⟨w, [], φ⟩ φ_ [.blk b10 194 [.slice A169 x159.bytes.length c170, .int .i64 x159.next, .int .u32 x159.state], .blk b130 83 [.int .i64 (w64 ((w64 (2500 * x101)) + x158)), .int .i64 x115], .row A395 c396 4 1 (List.flatMap encT l394), .row A333 c334 3 1 (List.flatMap encI x323)] w_) hf402 ?_ ?_ ?_
         ·have hS404 := hS360.nilrow 4 1
          exact ⟨φ354, none, 0, rfl, f363, f366, f368, rfl, rfl, rfl, (PHeap.Le.refl _), (hS404.pick [3, 4, 0, 1] _ (by decide) rfl)⟩
         ·rintro k398 l394 xx408 σ406 W407 hk411 ⟨φ413, A395, c396, fi412, f416, f417, f418, f419, f420, f421, le414, hS415⟩ hx409
          have c422 : Hid ((↑k398 : Int) < (↑x323.length : Int)) := Hid.mk (lp_lt0 hk411)
          replace hk411 := Hid.mk hk411
          have hi423 : Hid (w64 ((↑k398 : Int) + 1) = (↑(k398 + 1) : Int)) := Hid.mk (by have h1 := hle401.out; have h2 := c422.out; rw [w64_in] <;> omega)
          refine CK.seq ?_
          refine CK.reg (ks := []) (.fl 0 (.nil)) rfl ?_
          refine OKS.r rfl rfl rfl rfl (fun _ => Runs.lss rfl fi412 f421) ?_
          refine OKS.e ?_
          refine thenQ_n ?_
          refine CK.seq ?_
          refine CK.condT (decT c422.out) ?_
          refine CK.skip ?_
          refine thenQ_n ?_
          refine CK.seq ?_
          refine CK.block ?_
          refine CK.seq ?_
          refine CK.reg (ks := []) (.fl 0 (.fl 1 (.fl 2 (.nil)))) rfl ?_
          have q := bnd hx409
          obtain ⟨_, h424, hm425⟩ := q
          obtain ⟨b426, hA427⟩ := hS415.rowSome (j := 3) rfl (by rw [flatMap_len (f := encI) (sz := 1) (fun _ => rfl) x323]; have hz := chk_lt h424; omega)
          refine OKS.r rfl rfl rfl rfl (fun _ => Runs.iaN rfl f420 hA427 fi412 Tryz.runUnderlying23 Tryz.sizeOf3 (chk_lt h424)) ?_
          have hg428 := gd_at (xs := x323) (chk_lt h424)
          refine OKS.m rfl rfl rfl rfl (hS415.ldR (j := 3) rfl hA427 rfl rfl Tryz.isAgg3 (flatMap_cell (sz := 1) (fun _ => rfl) _ _ 0 _ hg428 (by first | omega | rfl | simp) rfl)) rfl ?_
          refine OKS.ra rfl rfl rfl rfl rfl rfl ?_
          refine OKS.e ?_
          refine thenQ_n ?_
          refine CK.reg (ks := []) (.fl 0 (.fl 1 (.fl 2 (.fx 3 (.fx 4 (.fl 5 (.nil)) .stop) .stop)))) rfl ?_
          refine OKS.rm rfl rfl rfl rfl rfl f419 ?_
          refine OKS.rm rfl rfl rfl rfl rfl rfl ?_
          refine OKS.r rfl rfl rfl rfl (fun _ => Runs.gtr rfl rfl rfl) ?_
          refine OKS.buildSlice (pv := [(0, .bool (decide (0 < (gd x323 k398))))]) (zs := [.bool false]) (cs := [.bool (decide (0 < (gd x323 k398)))]) rfl rfl rfl rfl rfl (mapcons2 rfl mapnil2) Tryz.runUnderlying52 Tryz.sizeOf4 Tryz.zeroValue4 rfl rfl rfl rfl rfl hS415 ?_
          intro W429 b430 hS431
          have hS433 : St ⟨w, [], φ⟩ φ413 [.row (some ⟨b430, 0, none⟩) 1 4 1 (List.flatMap encT [decide (0 < (gd x323 k398))]), .blk b10 194 [.slice A169 x159.bytes.length c170, .int .i64 x159.next, .int .u32 x159.state], .blk b130 83 [.int .i64 (w64 ((w64 (2500 * x101)) + x158)), .int .i64 x115], .row A395 c396 4 1 (List.flatMap encT l394), .row A333 c334 3 1 (List.flatMap encI x323)] W429 := hS431
          have q := bnd hm425
          obtain ⟨x434, h435, hm436⟩ := q
          refine OKS.append (j := 3) (enc := encT) (xs := l394) (ys := [decide (0 < (gd x323 k398))]) (zs := x434) rfl rfl rfl rfl rfl Tryz.underlying52 info4 rfl rfl rfl rfl rfl rfl hS433 rfl rfl rfl (hS433.srcR (j := 0) rfl (by decide) (flatMap_len (f := encT) (sz := 1) (fun _ => rfl) [decide (0 < (gd x323 k398))])) (fun _ => rfl) (fun _ => rfl) h435 rfl ?_
          intro A437 c438 W439 hS440
          have hS441 : St ⟨w, [], φ⟩ φ413 [.row (some ⟨b430, 0, none⟩) 1 4 1 (List.flatMap encT [decide (0 < (gd x323 k398))]), .blk b10 194 [.slice A169 x159.bytes.length c170, .int .i64 x159.next, .int .u32 x159.state], .blk b130 83 [.int .i64 (w64 ((w64 (2500 * x101)) + x158)), .int .i64 x115], .row A437 c438 4 1 (List.flatMap encT x434), .row A333 c334 3 1 (List.flatMap encI x323)] W439 := hS440
          refine OKS.ra rfl rfl rfl rfl rfl rfl ?_
          refine OKS.e ?_
          refine blockQ_n ?_
          refine thenQ_n ?_
          refine CK.reg (ks := []) (.fl 0 (.fl 1 (.nil))) rfl ?_
          refine OKS.r rfl rfl rfl rfl (fun _ => Runs.to (Runs.addw rfl fi412 rfl) (congrArg (Value.int .i64) hi423.out)) ?_
          refine OKS.rm rfl rfl rfl rfl rfl rfl ?_
          refine OKS.e ?_
          cases hm436
          exact thenQ_n ⟨rfl, ⟨φ413, A437, c438, rfl, f416, f417, f418, rfl, f420, f421, le414, (hS441.pick [1, 2, 3, 4] _ (by decide) rfl)⟩⟩
         ·rintro σ445 W446 ⟨φ454, A452, c453, fi448, f457, f458, f459, f460, f461, f462, le455, hS456⟩
          have c463 : Hid (¬ ((↑(((↑x323.length : Int) : Int) - 0).toNat : Int) < (↑x323.length : Int))) := Hid.mk (lp_end0)
          refine CK.seq ?_
          refine CK.reg (ks := []) (.fl 0 (.nil)) rfl ?_
          refine OKS.r rfl rfl rfl rfl (fun _ => Runs.lss rfl fi448 f462) ?_
          refine OKS.e ?_
          refine thenQ_n ?_
          refine CK.seq ?_
          refine CK.condF (decF c463.out) ?_
          refine CK.exit ?_
          refine thenQ_e ?_
          refine thenQ_e ?_
          refine blockQ_h ?_
          refine thenQ_n ?_
          refine CK.seq ?_
          refine CK.reg (ks := []) (.fl 0 (.fx 1 (.fl 2 (.fl 3 (.fl 4 (.fx 5 (.fx 6 (.fl 7 (.nil)) .stop) .stop)))) .stop)) rfl ?_
          refine OKS.rm rfl rfl rfl rfl rfl f460 ?_
          have q := hS456.freezeR (k := 2) (n := y403.length) rfl (flatMap_len (f := encT) (sz := 1) (fun _ => rfl) y403) (by decide)
          obtain ⟨φ464, le465, hs466, hS467⟩ := q
          have hS468 : St ⟨w, [], φ⟩ φ464 [.blk b10 194 [.slice A169 x159.bytes.length c170, .int .i64 x159.next, .int .u32 x159.state], .blk b130 83 [.int .i64 (w64 ((w64 (2500 * x101)) + x158)), .int .i64 x115], .row A333 c334 3 1 (List.flatMap encI x323)] W446 := hS467
          have q := bnd hm399
          obtain ⟨⟨x469, x470⟩, h471, hm472⟩ := q
          try dsimp only at hm472
          refine OKS.callH 0 rfl rfl rfl rfl (Enters.mk rfl rfl Tryz.call22 (mapcons rfl mapnil) rfl) hS468 (fun hs => w_relay_Shot y403 A452 c453 W446 φ464 hs hs466 h471) (.inr rfl) ?_
          rintro φ473 L474 v475 W476 le477 hS478 ⟨rfl, rfl⟩
          have hS479 : St ⟨w, [], φ⟩ φ473 [.blk b10 194 [.slice A169 x159.bytes.length c170, .int .i64 x159.next, .int .u32 x159.state], .blk b130 83 [.int .i64 (w64 ((w64 (2500 * x101)) + x158)), .int .i64 x115], .row A333 c334 3 1 (List.flatMap encI x323)] W476 := hS478
          refine OKS.rm rfl rfl rfl rfl rfl rfl ?_
          refine OKS.r rfl rfl rfl rfl (fun _ => Runs.ext rfl rfl (v := .agg #[.int .i64 x469.Spares, .int .i64 x469.Loops, .int .i64 x469.Unused]) rfl) ?_
          refine OKS.r rfl rfl rfl rfl (fun _ => Runs.ext rfl rfl (v := .int .i64 x470) rfl) ?_
          refine OKS.alloc (cs := [.int .i64 0, .int .i64 0, .int .i64 0]) rfl rfl rfl rfl rfl Tryz.zeroValue49 rfl hS479 ?_
          intro W480 b481 hS482
          refine OKS.st (j := 0) (vs := [.int .i64 x469.Spares, .int .i64 x469.Loops, .int .i64 x469.Unused]) rfl rfl rfl rfl hS482 rfl rfl rfl rfl Tryz.sizeOf49 (Nat.le_of_ble_eq_true rfl) rfl rfl rfl ?_
          intro W484 hS485
          have hS486 : St ⟨w, [], φ⟩ φ473 [.blk b481 49 [.int .i64 x469.Spares, .int .i64 x469.Loops, .int .i64 x469.Unused], .blk b10 194 [.slice A169 x159.bytes.length c170, .int .i64 x159.next, .int .u32 x159.state], .blk b130 83 [.int .i64 (w64 ((w64 (2500 * x101)) + x158)), .int .i64 x115], .row A333 c334 3 1 (List.flatMap encI x323)] W484 := hS485
          refine OKS.ra rfl rfl rfl rfl rfl rfl ?_
          refine OKS.e ?_
          refine thenQ_n ?_
          refine CK.seq ?_
          refine CK.reg (ks := []) (.fl 0 (.fl 1 (.fl 2 (.fl 3 (.fl 4 (.fl 5 (.fl 6 (.fl 7 (.fl 8 (.fl 9 (.fl 10 (.fl 11 (.fl 12 (.fl 13 (.fl 14 (.fl 15 (.fl 16 (.fl 17 (.fl 18 (.fl 19 (.fl 20 (.fl 21 (.fl 22 (.fl 23 (.fl 24 (.fl 25 (.fl 26 (.fl 27 (.fx 28 (.fl 29 (.fl 30 (.nil))) .stop))))))))))))))))))))))))))))) rfl ?_
          refine OKS.rm rfl rfl rfl rfl rfl rfl ?_
          refine OKS.r rfl rfl rfl rfl (fun _ => Runs.eql rfl rfl rfl) ?_
          refine OKS.rm rfl rfl rfl rfl rfl rfl ?_
          by_cases c487 : x470 = 0
          ·have hm488 := hm472; rw [if_pos c487] at hm488; replace c487 := Hid.mk c487
           refine OKS.r rfl rfl rfl (wantedY rfl rfl (decT c487.out)) (fun _ => Runs.fa rfl rfl Tryz.runUnderlying49 rfl Tryz.sizeOf3) ?_
           refine OKS.m rfl rfl rfl (wantedY rfl rfl (decT c487.out)) (hS486.ldB (j := 0) rfl rfl rfl Tryz.isAgg3 (v := .int .i64 x469.Loops) rfl) rfl ?_
           refine OKS.rm rfl rfl rfl (wantedY rfl rfl (decT c487.out)) rfl f458 ?_
           refine OKS.r rfl rfl rfl (wantedY rfl rfl (decT c487.out)) (fun _ => Runs.eql rfl rfl rfl) ?_
           refine OKS.r rfl rfl rfl rfl (fun _ => Runs.pickT rfl (decT c487.out) rfl) ?_
           refine OKS.rm rfl rfl rfl rfl rfl rfl ?_
           by_cases c489 : x469.Loops = x338
           ·have hm490 := hm488; rw [if_pos c489] at hm490; replace c489 := Hid.mk c489
            refine OKS.r rfl rfl rfl (wantedY rfl rfl (decT c489.out)) (fun _ => Runs.fa rfl rfl Tryz.runUnderlying49 rfl Tryz.sizeOf3) ?_
            refine OKS.m rfl rfl rfl (wantedY rfl rfl (decT c489.out)) (hS486.ldB (j := 0) rfl rfl rfl Tryz.isAgg3 (v := .int .i64 x469.Spares) rfl) rfl ?_
            refine OKS.rm rfl rfl rfl (wantedY rfl rfl (decT c489.out)) rfl f459 ?_
            refine OKS.r rfl rfl rfl (wantedY rfl rfl (decT c489.out)) (fun _ => Runs.eql rfl rfl rfl) ?_
            refine OKS.r rfl rfl rfl rfl (fun _ => Runs.pickT rfl (decT c489.out) rfl) ?_
            refine OKS.rm rfl rfl rfl rfl rfl rfl ?_
            by_cases c491 : x469.Spares = x350
            ·have hm492 := hm490; rw [if_pos c491] at hm492; replace c491 := Hid.mk c491
             refine OKS.r rfl rfl rfl (wantedY rfl rfl (decT c491.out)) (fun _ => Runs.fa rfl rfl Tryz.runUnderlying49 rfl Tryz.sizeOf3) ?_
             refine OKS.m rfl rfl rfl (wantedY rfl rfl (decT c491.out)) (hS486.ldB (j := 0) rfl rfl rfl Tryz.isAgg3 (v := .int .i64 x469.Unused) rfl) rfl ?_
             refine OKS.r rfl rfl rfl (wantedY rfl rfl (decT c491.out)) (fun _ => Runs.gtr rfl rfl rfl) ?_
             refine OKS.rm rfl rfl rfl (wantedY rfl rfl (decT c491.out)) rfl f458 ?_
             refine OKS.r rfl rfl rfl (wantedY rfl rfl (decT c491.out)) (fun _ => Runs.gtr rfl rfl rfl) ?_
             refine OKS.rm rfl rfl rfl (wantedY rfl rfl (decT c491.out)) rfl rfl ?_
             by_cases c493 : 0 < x338
             ·have hm494 := hm492; rw [if_pos c493] at hm494; replace c493 := Hid.mk c493
              refine OKS.rm rfl rfl rfl (wantedY rfl rfl (decT c493.out)) rfl f457 ?_
              refine OKS.r rfl rfl rfl (wantedY rfl rfl (decT c493.out)) (fun _ => Runs.len rfl rfl Tryz.runUnderlying81) ?_
              refine OKS.r rfl rfl rfl (wantedY rfl rfl (decT c493.out)) (fun _ => Runs.lss rfl rfl rfl) ?_
              refine OKS.r rfl rfl rfl (wantedY rfl rfl (decT c491.out)) (fun _ => Runs.pickT rfl (decT c493.out) rfl) ?_
              refine OKS.r rfl rfl rfl (wantedY rfl rfl (decT c491.out)) (fun _ => Runs.eqB rfl rfl rfl Tryz.runUnderlying4) ?_
              refine OKS.r rfl rfl rfl rfl (fun _ => Runs.pickT rfl (decT c491.out) rfl) ?_
              refine OKS.rm rfl rfl rfl rfl rfl rfl ?_
              by_cases c495 : ((decide (0 < x469.Unused)) == (decide ((↑l75.length : Int) < 8))) = true
              ·have hm496 := hm494; rw [if_pos c495] at hm496; replace c495 := Hid.mk c495
               have q := bnd hm496
               obtain ⟨x497, h498, hm499⟩ := q
               refine OKS.callH 0 rfl rfl rfl (wantedY rfl rfl (congrArg Value.bool c495.out)) (Enters.mk rfl rfl Tryz.call27 mapnil rfl) hS486 (fun hs => w_klisterlaw08_awake W484 φ473 hs h498) (.inr rfl) ?_
               rintro φ500 L501 v502 W503 le504 hS505 ⟨rfl, rfl⟩
               have hS506 : St ⟨w, [], φ⟩ φ500 [.blk b481 49 [.int .i64 x469.Spares, .int .i64 x469.Loops, .int .i64 x469.Unused], .blk b10 194 [.slice A169 x159.bytes.length c170, .int .i64 x159.next, .int .u32 x159.state], .blk b130 83 [.int .i64 (w64 ((w64 (2500 * x101)) + x158)), .int .i64 x115], .row A333 c334 3 1 (List.flatMap encI x323)] W503 := hS505
               refine OKS.r rfl rfl rfl rfl (fun _ => Runs.pickT rfl (congrArg Value.bool c495.out) rfl) ?_
               refine OKS.ra rfl rfl rfl rfl rfl rfl ?_
               refine OKS.e ?_
               refine thenQ_n ?_
               refine CK.ret ?_
               have hE := Option.some.inj hm499; first | subst r | cases hE
               exact ⟨rfl, _, (res1 rfl), φ500, _, (hS506.pick [] _ (by decide) rfl), rfl, rfl⟩
              ·have hm507 := hm494; rw [if_neg c495] at hm507; replace c495 := Hid.mk c495
               refine OKS.px rfl rfl rfl (wantedN rfl rfl (congrArg Value.bool (Bool.eq_false_iff.2 c495.out)) rfl) ?_
               refine OKS.r rfl rfl rfl rfl (fun _ => Runs.pickF rfl (congrArg Value.bool (Bool.eq_false_iff.2 c495.out)) rfl) ?_
               refine OKS.ra rfl rfl rfl rfl rfl rfl ?_
               refine OKS.e ?_
               refine thenQ_n ?_
               refine CK.ret ?_
               have hE := Option.some.inj hm507; first | subst r | cases hE
               exact ⟨rfl, _, (res1 rfl), φ473, _, (hS486.pick [] _ (by decide) rfl), rfl, rfl⟩
             ·have hm508 := hm492; rw [if_neg c493] at hm508; replace c493 := Hid.mk c493
              refine OKS.p rfl rfl rfl (wantedN rfl rfl (decF c493.out) rfl) ?_
              refine OKS.p rfl rfl rfl (wantedN rfl rfl (decF c493.out) rfl) ?_
              refine OKS.p rfl rfl rfl (wantedN rfl rfl (decF c493.out) rfl) ?_
              refine OKS.r rfl rfl rfl (wantedY rfl rfl (decT c491.out)) (fun _ => Runs.pickF rfl (decF c493.out) rfl) ?_
              refine OKS.r rfl rfl rfl (wantedY rfl rfl (decT c491.out)) (fun _ => Runs.eqB rfl rfl rfl Tryz.runUnderlying4) ?_
              refine OKS.r rfl rfl rfl rfl (fun _ => Runs.pickT rfl (decT c491.out) rfl) ?_
              refine OKS.rm rfl rfl rfl rfl rfl rfl ?_
              by_cases c509 : ((decide (0 < x469.Unused)) == false) = true
              ·have hm510 := hm508; rw [if_pos c509] at hm510; replace c509 := Hid.mk c509
               have q := bnd hm510
               obtain ⟨x511, h512, hm513⟩ := q
               refine OKS.callH 0 rfl rfl rfl (wantedY rfl rfl (congrArg Value.bool c509.out)) (Enters.mk rfl rfl Tryz.call27 mapnil rfl) hS486 (fun hs => w_klisterlaw08_awake W484 φ473 hs h512) (.inr rfl) ?_
               rintro φ514 L515 v516 W517 le518 hS519 ⟨rfl, rfl⟩
               have hS520 : St ⟨w, [], φ⟩ φ514 [.blk b481 49 [.int .i64 x469.Spares, .int .i64 x469.Loops, .int .i64 x469.Unused], .blk b10 194 [.slice A169 x159.bytes.length c170, .int .i64 x159.next, .int .u32 x159.state], .blk b130 83 [.int .i64 (w64 ((w64 (2500 * x101)) + x158)), .int .i64 x115], .row A333 c334 3 1 (List.flatMap encI x323)] W517 := hS519
               refine OKS.r rfl rfl rfl rfl (fun _ => Runs.pickT rfl (congrArg Value.bool c509.out) rfl) ?_
               refine OKS.ra rfl rfl rfl rfl rfl rfl ?_
               refine OKS.e ?_
               refine thenQ_n ?_
               refine CK.ret ?_
               have hE := Option.some.inj hm513; first | subst r | cases hE
               exact ⟨rfl, _, (res1 rfl), φ514, _, (hS520.pick [] _ (by decide) rfl), rfl, rfl⟩
              ·have hm521 := hm508; rw [if_neg c509] at hm521; replace c509 := Hid.mk c509
               refine OKS.px rfl rfl rfl (wantedN rfl rfl (congrArg Value.bool (Bool.eq_false_iff.2 c509.out)) rfl) ?_
               refine OKS.r rfl rfl rfl rfl (fun _ => Runs.pickF rfl (congrArg Value.bool (Bool.eq_false_iff.2 c509.out)) rfl) ?_
               refine OKS.ra rfl rfl rfl rfl rfl rfl ?_
               refine OKS.e ?_
               refine thenQ_n ?_
               refine CK.ret ?_
               have hE := Option.some.inj hm521; first | subst r | cases hE
               exact ⟨rfl, _, (res1 rfl), φ473, _, (hS486.pick [] _ (by decide) rfl), rfl, rfl⟩
            ·have hm522 := hm490; rw [if_neg c491] at hm522; replace c491 := Hid.mk c491
             refine OKS.p rfl rfl rfl (wantedN rfl rfl (decF c491.out) rfl) ?_
             refine OKS.p rfl rfl rfl (wantedN rfl rfl (decF c491.out) rfl) ?_
             refine OKS.p rfl rfl rfl (wantedN rfl rfl (decF c491.out) rfl) ?_
             refine OKS.p rfl rfl rfl (wantedN rfl rfl (decF c491.out) rfl) ?_
             refine OKS.p rfl rfl rfl (wantedN rfl rfl (decF c491.out) rfl) ?_
             refine OKS.p rfl rfl rfl (wantedN rfl rfl (decF c491.out) rfl) ?_
             refine OKS.p rfl rfl rfl (wantedU rfl rfl rfl) ?_
             refine OKS.p rfl rfl rfl (wantedU rfl rfl rfl) ?_
             refine OKS.p rfl rfl rfl (wantedU rfl rfl rfl) ?_
             refine OKS.p rfl rfl rfl (wantedN rfl rfl (decF c491.out) rfl) ?_
             refine OKS.p rfl rfl rfl (wantedN rfl rfl (decF c491.out) rfl) ?_
             refine OKS.r rfl rfl rfl rfl (fun _ => Runs.pickF rfl (decF c491.out) rfl) ?_
             refine OKS.rm rfl rfl rfl rfl rfl rfl ?_
             refine OKS.px rfl rfl rfl (wantedN rfl rfl rfl rfl) ?_
             refine OKS.r rfl rfl rfl rfl (fun _ => Runs.pickF rfl rfl rfl) ?_
             refine OKS.ra rfl rfl rfl rfl rfl rfl ?_
             refine OKS.e ?_
             refine thenQ_n ?_
             refine CK.ret ?_
             have hE := Option.some.inj hm522; first | subst r | cases hE
             exact ⟨rfl, _, (res1 rfl), φ473, _, (hS486.pick [] _ (by decide) rfl), rfl, rfl⟩
           ·have hm523 := hm488; rw [if_neg c489] at hm523; replace c489 := Hid.mk c489
            refine OKS.p rfl rfl rfl (wantedN rfl rfl (decF c489.out) rfl) ?_
            refine OKS.p rfl rfl rfl (wantedN rfl rfl (decF c489.out) rfl) ?_
            refine OKS.p rfl rfl rfl (wantedN rfl rfl (decF c489.out) rfl) ?_
            refine OKS.p rfl rfl rfl (wantedN rfl rfl (decF c489.out) rfl) ?_
            refine OKS.r rfl rfl rfl rfl (fun _ => Runs.pickF rfl (decF c489.out) rfl) ?_
            refine OKS.rm rfl rfl rfl rfl rfl rfl ?_
            refine OKS.p rfl rfl rfl (wantedN rfl rfl rfl rfl) ?_
            refine OKS.p rfl rfl rfl (wantedN rfl rfl rfl rfl) ?_
            refine OKS.p rfl rfl rfl (wantedN rfl rfl rfl rfl) ?_
            refine OKS.p rfl rfl rfl (wantedN rfl rfl rfl rfl) ?_
            refine OKS.p rfl rfl rfl (wantedN rfl rfl rfl rfl) ?_
            refine OKS.p rfl rfl rfl (wantedN rfl rfl rfl rfl) ?_
            refine OKS.p rfl rfl rfl (wantedU rfl rfl rfl) ?_
            refine OKS.p rfl rfl rfl (wantedU rfl rfl rfl) ?_
            refine OKS.p rfl rfl rfl (wantedU rfl rfl rfl) ?_
            refine OKS.p rfl rfl rfl (wantedN rfl rfl rfl rfl) ?_
            refine OKS.p rfl rfl rfl (wantedN rfl rfl rfl rfl) ?_
            refine OKS.r rfl rfl rfl rfl (fun _ => Runs.pickF rfl rfl rfl) ?_
            refine OKS.rm rfl rfl rfl rfl rfl rfl ?_
            refine OKS.px rfl rfl rfl (wantedN rfl rfl rfl rfl) ?_
            refine OKS.r rfl rfl rfl rfl (fun _ => Runs.pickF rfl rfl rfl) ?_
            refine OKS.ra rfl rfl rfl rfl rfl rfl ?_
            refine OKS.e ?_
            refine thenQ_n ?_
            refine CK.ret ?_
            have hE := Option.some.inj hm523; first | subst r | cases hE
            exact ⟨rfl, _, (res1 rfl), φ473, _, (hS486.pick [] _ (by decide) rfl), rfl, rfl⟩
          ·have hm524 := hm472; rw [if_neg c487] at hm524; replace c487 := Hid.mk c487
           refine OKS.p rfl rfl rfl (wantedN rfl rfl (decF c487.out) rfl) ?_
           refine OKS.p rfl rfl rfl (wantedN rfl rfl (decF c487.out) rfl) ?_
           refine OKS.p rfl rfl rfl (wantedN rfl rfl (decF c487.out) rfl) ?_
           refine OKS.p rfl rfl rfl (wantedN rfl rfl (decF c487.out) rfl) ?_
           refine OKS.r rfl rfl rfl rfl (fun _ => Runs.pickF rfl (decF c487.out) rfl) ?_
           refine OKS.rm rfl rfl rfl rfl rfl rfl ?_
           refine OKS.p rfl rfl rfl (wantedN rfl rfl rfl rfl) ?_
           refine OKS.p rfl rfl rfl (wantedN rfl rfl rfl rfl) ?_
           refine OKS.p rfl rfl rfl (wantedN rfl rfl rfl rfl) ?_
           refine OKS.p rfl rfl rfl (wantedN rfl rfl rfl rfl) ?_
           refine OKS.r rfl rfl rfl rfl (fun _ => Runs.pickF rfl rfl rfl) ?_
           refine OKS.rm rfl rfl rfl rfl rfl rfl ?_
           refine OKS.p rfl rfl rfl (wantedN rfl rfl rfl rfl) ?_
           refine OKS.p rfl rfl rfl (wantedN rfl rfl rfl rfl) ?_
           refine OKS.p rfl rfl rfl (wantedN rfl rfl rfl rfl) ?_
           refine OKS.p rfl rfl rfl (wantedN rfl rfl rfl rfl) ?_
           refine OKS.p rfl rfl rfl (wantedN rfl rfl rfl rfl) ?_
           refine OKS.p rfl rfl rfl (wantedN rfl rfl rfl rfl) ?_
           refine OKS.p rfl rfl rfl (wantedU rfl rfl rfl) ?_
           refine OKS.p rfl rfl rfl (wantedU rfl rfl rfl) ?_
           refine OKS.p rfl rfl rfl (wantedU rfl rfl rfl) ?_
           refine OKS.p rfl rfl rfl (wantedN rfl rfl rfl rfl) ?_
           refine OKS.p rfl rfl rfl (wantedN rfl rfl rfl rfl) ?_
           refine OKS.r rfl rfl rfl rfl (fun _ => Runs.pickF rfl rfl rfl) ?_
           refine OKS.rm rfl rfl rfl rfl rfl rfl ?_
           refine OKS.px rfl rfl rfl (wantedN rfl rfl rfl rfl) ?_
           refine OKS.r rfl rfl rfl rfl (fun _ => Runs.pickF rfl rfl rfl) ?_
           refine OKS.ra rfl rfl rfl rfl rfl rfl ?_
           refine OKS.e ?_
           refine thenQ_n ?_
           refine CK.ret ?_
           have hE := Option.some.inj hm524; first | subst r | cases hE
           exact ⟨rfl, _, (res1 rfl), φ473, _, (hS486.pick [] _ (by decide) rfl), rfl, rfl⟩
       ·have hm525 := hm375; rw [if_neg c376] at hm525; replace c376 := Hid.mk c376
        refine OKS.p rfl rfl rfl (wantedN rfl rfl (decT c376.out) rfl) ?_
        refine OKS.p rfl rfl rfl (wantedN rfl rfl (decT c376.out) rfl) ?_
        refine OKS.p rfl rfl rfl (wantedN rfl rfl (decT c376.out) rfl) ?_
        refine OKS.r rfl rfl rfl rfl (fun _ => Runs.pickT rfl (decT c376.out) rfl) ?_
        refine OKS.e ?_
        refine thenQ_n ?_
        refine CK.condT rfl ?_
        refine CK.seq ?_
        refine CK.reg (ks := []) (.fl 0 (.nil)) rfl ?_
        refine OKS.ra rfl rfl rfl rfl rfl rfl ?_
        refine OKS.e ?_
        refine thenQ_n ?_
        refine CK.ret ?_
        refine thenQ_r ?_
        have hE := Option.some.inj hm525; first | subst r | cases hE
        exact ⟨rfl, _, (res1 rfl), φ354, _, (hS360.pick [] _ (by decide) rfl), rfl, rfl⟩
      ·have hm526 := hm373; rw [if_neg c374] at hm526; replace c374 := Hid.mk c374
       refine OKS.p rfl rfl rfl (wantedN rfl rfl (decT c374.out) rfl) ?_
       refine OKS.p rfl rfl rfl (wantedN rfl rfl (decT c374.out) rfl) ?_
       refine OKS.p rfl rfl rfl (wantedN rfl rfl (decT c374.out) rfl) ?_
       refine OKS.p rfl rfl rfl (wantedN rfl rfl (decT c374.out) rfl) ?_
       refine OKS.p rfl rfl rfl (wantedN rfl rfl (decT c374.out) rfl) ?_
       refine OKS.r rfl rfl rfl rfl (fun _ => Runs.pickT rfl (decT c374.out) rfl) ?_
       refine OKS.rm rfl rfl rfl rfl rfl rfl ?_
       refine OKS.p rfl rfl rfl (wantedN rfl rfl rfl rfl) ?_
       refine OKS.p rfl rfl rfl (wantedN rfl rfl rfl rfl) ?_
       refine OKS.p rfl rfl rfl (wantedN rfl rfl rfl rfl) ?_
       refine OKS.r rfl rfl rfl rfl (fun _ => Runs.pickT rfl rfl rfl) ?_
       refine OKS.e ?_
       refine thenQ_n ?_
       refine CK.condT rfl ?_
       refine CK.seq ?_
       refine CK.reg (ks := []) (.fl 0 (.nil)) rfl ?_
       refine OKS.ra rfl rfl rfl rfl rfl rfl ?_
       refine OKS.e ?_
       refine thenQ_n ?_
       refine CK.ret ?_
       refine thenQ_r ?_
       have hE := Option.some.inj hm526; first | subst r | cases hE
       exact ⟨rfl, _, (res1 rfl), φ354, _, (hS360.pick [] _ (by decide) rfl), rfl, rfl⟩
     ·have hm527 := hm371; rw [if_neg c372] at hm527; replace c372 := Hid.mk c372
      refine OKS.p rfl rfl rfl (wantedN rfl rfl (decT c372.out) rfl) ?_
      refine OKS.p rfl rfl rfl (wantedN rfl rfl (decT c372.out) rfl) ?_
      refine OKS.r rfl rfl rfl rfl (fun _ => Runs.pickT rfl (decT c372.out) rfl) ?_
      refine OKS.rm rfl rfl rfl rfl rfl rfl ?_
      refine OKS.p rfl rfl rfl (wantedN rfl rfl rfl rfl) ?_
      refine OKS.p rfl rfl rfl (wantedN rfl rfl rfl rfl) ?_
      refine OKS.p rfl rfl rfl (wantedN rfl rfl rfl rfl) ?_
      refine OKS.p rfl rfl rfl (wantedN rfl rfl rfl rfl) ?_
      refine OKS.p rfl rfl rfl (wantedN rfl rfl rfl rfl) ?_
      refine OKS.r rfl rfl rfl rfl (fun _ => Runs.pickT rfl rfl rfl) ?_
      refine OKS.rm rfl rfl rfl rfl rfl rfl ?_
      refine OKS.p rfl rfl rfl (wantedN rfl rfl rfl rfl) ?_
      refine OKS.p rfl rfl rfl (wantedN rfl rfl rfl rfl) ?_
      refine OKS.p rfl rfl rfl (wantedN rfl rfl rfl rfl) ?_
      refine OKS.r rfl rfl rfl rfl (fun _ => Runs.pickT rfl rfl rfl) ?_
      refine OKS.e ?_
      refine thenQ_n ?_
      refine CK.condT rfl ?_
      refine CK.seq ?_
      refine CK.reg (ks := []) (.fl 0 (.nil)) rfl ?_
      refine OKS.ra rfl rfl rfl rfl rfl rfl ?_
      refine OKS.e ?_
      refine thenQ_n ?_
      refine CK.ret ?_
      refine thenQ_r ?_
      have hE := Option.some.inj hm527; first | subst r | cases hE
      exact ⟨rfl, _, (res1 rfl), φ354, _, (hS360.pick [] _ (by decide) rfl), rfl, rfl⟩
    ·have hm528 := hm353; rw [if_neg c370] at hm528; replace c370 := Hid.mk c370
     refine OKS.p rfl rfl rfl (wantedN rfl rfl (decT c370.out) rfl) ?_
     refine OKS.p rfl rfl rfl (wantedN rfl rfl (decT c370.out) rfl) ?_
     refine OKS.r rfl rfl rfl rfl (fun _ => Runs.pickT rfl (decT c370.out) rfl) ?_
     refine OKS.rm rfl rfl rfl rfl rfl rfl ?_
     refine OKS.p rfl rfl rfl (wantedN rfl rfl rfl rfl) ?_
     refine OKS.p rfl rfl rfl (wantedN rfl rfl rfl rfl) ?_
     refine OKS.r rfl rfl rfl rfl (fun _ => Runs.pickT rfl rfl rfl) ?_
     refine OKS.rm rfl rfl rfl rfl rfl rfl ?_
     refine OKS.p rfl rfl rfl (wantedN rfl rfl rfl rfl) ?_
     refine OKS.p rfl rfl rfl (wantedN rfl rfl rfl rfl) ?_
     refine OKS.p rfl rfl rfl (wantedN rfl rfl rfl rfl) ?_
     refine OKS.p rfl rfl rfl (wantedN rfl rfl rfl rfl) ?_
     refine OKS.p rfl rfl rfl (wantedN rfl rfl rfl rfl) ?_
     refine OKS.r rfl rfl rfl rfl (fun _ => Runs.pickT rfl rfl rfl) ?_
     refine OKS.rm rfl rfl rfl rfl rfl rfl ?_
     refine OKS.p rfl rfl rfl (wantedN rfl rfl rfl rfl) ?_
     refine OKS.p rfl rfl rfl (wantedN rfl rfl rfl rfl) ?_
     refine OKS.p rfl rfl rfl (wantedN rfl rfl rfl rfl) ?_
     refine OKS.r rfl rfl rfl rfl (fun _ => Runs.pickT rfl rfl rfl) ?_
     refine OKS.e ?_
     refine thenQ_n ?_
     refine CK.condT rfl ?_
     refine CK.seq ?_
     refine CK.reg (ks := []) (.fl 0 (.nil)) rfl ?_
     refine OKS.ra rfl rfl rfl rfl rfl rfl ?_
     refine OKS.e ?_
     refine thenQ_n ?_
     refine CK.ret ?_
     refine thenQ_r ?_
     have hE := Option.some.inj hm528; first | subst r | cases hE
     exact ⟨rfl, _, (res1 rfl), φ354, _, (hS360.pick [] _ (by decide) rfl), rfl, rfl⟩
 ·rintro ⟨y533, y534, y535, y536⟩ σ529 W530 ⟨φ541, A537, c538, A539, c540, fi532, f544, f545, f546, f547, le542, hS543, h548, h549⟩ hb531
  have hm550 := jn_inl hm33 hX80 hb531
  try dsimp only at hm550
  have c551 : Hid (¬ ((↑((x30 : Int) - 0).toNat : Int) < x30)) := Hid.mk (lp_end0)
  refine CK.seq ?_
  refine CK.reg (ks := []) (.fl 0 (.nil)) rfl ?_
  refine OKS.r rfl rfl rfl rfl (fun _ => Runs.lss rfl fi532 f547) ?_
  refine OKS.e ?_
  refine thenQ_n ?_
  refine CK.seq ?_
  refine CK.condF (decF c551.out) ?_
  refine CK.exit ?_
  refine thenQ_e ?_
  refine thenQ_e ?_
  refine blockQ_h ?_
  refine thenQ_n ?_
  refine CK.seq ?_
  refine CK.reg (ks := []) (.fl 0 (.fl 1 (.fx 2 (.fl 3 (.fl 4 (.fl 5 (.fl 6 (.fl 7 (.nil)))))) .stop))) rfl ?_
  refine OKS.rm rfl rfl rfl rfl rfl f545 ?_
  refine OKS.rm rfl rfl rfl rfl rfl f546 ?_
  have q := bnd hm550
  obtain ⟨⟨x552, x553⟩, h554, hm555⟩ := q
  try dsimp only at hm555
  refine OKS.callH 0 rfl rfl rfl rfl (Enters.mk rfl rfl Tryz.call43 (mapcons rfl (mapcons rfl mapnil)) rfl) hS543 (fun hs => w_target_Falls x16 y536 A539 c540 W530 φ541 hs h549 h554) (.inr rfl) ?_
  rintro φ556 L557 v558 W559 le560 hS561 ⟨A562, c563, rfl, rfl⟩
  have hS565 : St ⟨w, [], φ⟩ φ556 [.row A562 c563 3 1 (List.flatMap encI x552), .blk b10 194 [.slice A537 y533.length c538, .int .i64 y534, .int .u32 y535]] W559 := hS561
  refine OKS.rm rfl rfl rfl rfl rfl rfl ?_
  refine OKS.r rfl rfl rfl rfl (fun _ => Runs.ext rfl rfl (v := .slice A562 x552.length c563) rfl) ?_
  refine OKS.r rfl rfl rfl rfl (fun _ => Runs.ext rfl rfl (v := .int .i64 x553) rfl) ?_
  refine OKS.ra rfl rfl rfl rfl rfl rfl ?_
  refine OKS.ra rfl rfl rfl rfl rfl rfl ?_
  refine OKS.e ?_
  refine thenQ_n ?_
  refine CK.seq ?_
  refine CK.reg (ks := []) (.fl 0 (.fl 1 (.fx 2 (.fl 3 (.fl 4 (.fl 5 (.fl 6 (.fl 7 (.nil)))))) .stop))) rfl ?_
  refine OKS.rm rfl rfl rfl rfl rfl f545 ?_
  refine OKS.rm rfl rfl rfl rfl rfl f546 ?_
  have h566 := h549.le le560
  have q := bnd hm555
  obtain ⟨⟨x567, x568⟩, h569, hm570⟩ := q
  try dsimp only at hm570
  refine OKS.callH 0 rfl rfl rfl rfl (Enters.mk rfl rfl Tryz.call44 (mapcons rfl (mapcons rfl mapnil)) rfl) hS565 (fun hs => w_target_Loops x16 y536 A539 c540 W559 φ556 hs h566 h569) (.inr rfl) ?_
  rintro φ571 L572 v573 W574 le575 hS576 ⟨rfl, rfl⟩
  have hS577 : St ⟨w, [], φ⟩ φ571 [.row A562 c563 3 1 (List.flatMap encI x552), .blk b10 194 [.slice A537 y533.length c538, .int .i64 y534, .int .u32 y535]] W574 := hS576
  refine OKS.rm rfl rfl rfl rfl rfl rfl ?_
  refine OKS.r rfl rfl rfl rfl (fun _ => Runs.ext rfl rfl (v := .int .i64 x567) rfl) ?_
  refine OKS.r rfl rfl rfl rfl (fun _ => Runs.ext rfl rfl (v := .int .i64 x568) rfl) ?_
  refine OKS.ra rfl rfl rfl rfl rfl rfl ?_
  refine OKS.ra rfl rfl rfl rfl rfl rfl ?_
  refine OKS.e ?_
  refine thenQ_n ?_
  refine CK.seq ?_
  refine CK.reg (ks := []) (.fl 0 (.fl 1 (.fx 2 (.fl 3 (.fl 4 (.fl 5 (.fl 6 (.fl 7 (.nil)))))) .stop))) rfl ?_
  refine OKS.rm rfl rfl rfl rfl rfl f545 ?_
  refine OKS.rm rfl rfl rfl rfl rfl f546 ?_
  have h578 := h566.le le575
  have q := bnd hm570
  obtain ⟨⟨x579, x580⟩, h581, hm582⟩ := q
  try dsimp only at hm582
  refine OKS.callH 0 rfl rfl rfl rfl (Enters.mk rfl rfl Tryz.call45 (mapcons rfl (mapcons rfl mapnil)) rfl) hS577 (fun hs => w_target_Spares x16 y536 A539 c540 W574 φ571 hs h578 h581) (.inr rfl) ?_
  rintro φ583 L584 v585 W586 le587 hS588 ⟨rfl, rfl⟩
  have hS589 : St ⟨w, [], φ⟩ φ583 [.row A562 c563 3 1 (List.flatMap encI x552), .blk b10 194 [.slice A537 y533.length c538, .int .i64 y534, .int .u32 y535]] W586 := hS588
  refine OKS.rm rfl rfl rfl rfl rfl rfl ?_
  refine OKS.r rfl rfl rfl rfl (fun _ => Runs.ext rfl rfl (v := .int .i64 x579) rfl) ?_
  refine OKS.r rfl rfl rfl rfl (fun _ => Runs.ext rfl rfl (v := .int .i64 x580) rfl) ?_
  refine OKS.ra rfl rfl rfl rfl rfl rfl ?_
  refine OKS.ra rfl rfl rfl rfl rfl rfl ?_
  refine OKS.e ?_
  refine thenQ_n ?_
  refine CK.seq ?_
  refine CK.seq ?_
  refine CK.fresh fun σ590 hσ591 => ?_
  have f592 : σ590 5 = .slice A539 y536.length c540 := (hσ591 5).trans f546
  have f593 : σ590 10 = .slice A562 x552.length c563 := (hσ591 10).trans rfl
  have f594 : σ590 11 = .int .i64 x553 := (hσ591 11).trans rfl
  have f595 : σ590 12 = .int .i64 x567 := (hσ591 12).trans rfl
  have f596 : σ590 13 = .int .i64 x568 := (hσ591 13).trans rfl
  have f597 : σ590 14 = .int .i64 x579 := (hσ591 14).trans rfl
  have f598 : σ590 15 = .int .i64 x580 := (hσ591 15).trans rfl
  clear hσ591
  refine CK.reg (ks := []) (.fl 0 (.fl 1 (.fl 2 (.fl 3 (.fl 4 (.fl 5 (.fl 6 (.fl 7 (.fl 8 (.fl 9 (.fl 10 (.fl 11 (.fl 12 (.fl 13 (.fl 14 (.fl 15 (.fl 16 (.fl 17 (.fl 18 (.fl 19 (.fl 20 (.fl 21 (.nil))))))))))))))))))))))) rfl ?_
  refine OKS.rm rfl rfl rfl rfl rfl f594 ?_
  refine OKS.r rfl rfl rfl rfl (fun _ => Runs.neq rfl rfl rfl) ?_
  refine OKS.rm rfl rfl rfl rfl rfl rfl ?_
  by_cases c599 : x553 = 0
  ·have hm600 := hm582; rw [if_pos c599] at hm600; replace c599 := Hid.mk c599
   refine OKS.rm rfl rfl rfl (wantedY rfl rfl (decF (fun h => h c599.out))) rfl f596 ?_
   refine OKS.r rfl rfl rfl (wantedY rfl rfl (decF (fun h => h c599.out))) (fun _ => Runs.neq rfl rfl rfl) ?_
   refine OKS.r rfl rfl rfl rfl (fun _ => Runs.pickF rfl (decF (fun h => h c599.out)) rfl) ?_
   refine OKS.rm rfl rfl rfl rfl rfl rfl ?_
   by_cases c601 : x568 = 0
   ·have hm602 := hm600; rw [if_pos c601] at hm602; replace c601 := Hid.mk c601
    refine OKS.rm rfl rfl rfl (wantedY rfl rfl (decF (fun h => h c601.out))) rfl f598 ?_
    refine OKS.r rfl rfl rfl (wantedY rfl rfl (decF (fun h => h c601.out))) (fun _ => Runs.neq rfl rfl rfl) ?_
    refine OKS.r rfl rfl rfl rfl (fun _ => Runs.pickF rfl (decF (fun h => h c601.out)) rfl) ?_
    refine OKS.rm rfl rfl rfl rfl rfl rfl ?_
    by_cases c603 : x580 = 0
    ·have hm604 := hm602; rw [if_pos c603] at hm604; replace c603 := Hid.mk c603
     refine OKS.rm rfl rfl rfl (wantedY rfl rfl (decF (fun h => h c603.out))) rfl f593 ?_
     refine OKS.r rfl rfl rfl (wantedY rfl rfl (decF (fun h => h c603.out))) (fun _ => Runs.len rfl rfl Tryz.runUnderlying23) ?_
     refine OKS.rm rfl rfl rfl (wantedY rfl rfl (decF (fun h => h c603.out))) rfl f592 ?_
     refine OKS.r rfl rfl rfl (wantedY rfl rfl (decF (fun h => h c603.out))) (fun _ => Runs.len rfl rfl Tryz.runUnderlying81) ?_
     refine OKS.r rfl rfl rfl (wantedY rfl rfl (decF (fun h => h c603.out))) (fun _ => Runs.neq rfl rfl rfl) ?_
     refine OKS.r rfl rfl rfl rfl (fun _ => Runs.pickF rfl (decF (fun h => h c603.out)) rfl) ?_
     refine OKS.rm rfl rfl rfl rfl rfl rfl ?_
     by_cases c605 : (↑x552.length : Int) = (↑y536.length : Int)
     ·have hm606 := hm604; rw [if_pos c605] at hm606; replace c605 := Hid.mk c605
      refine OKS.rm rfl rfl rfl (wantedY rfl rfl (decF (fun h => h c605.out))) rfl f592 ?_
      refine OKS.r rfl rfl rfl (wantedY rfl rfl (decF (fun h => h c605.out))) (fun _ => Runs.len rfl rfl Tryz.runUnderlying81) ?_
      refine OKS.r rfl rfl rfl (wantedY rfl rfl (decF (fun h => h c605.out))) (fun _ => Runs.lss rfl rfl rfl) ?_
      refine OKS.r rfl rfl rfl rfl (fun _ => Runs.pickF rfl (decF (fun h => h c605.out)) rfl) ?_
      refine OKS.e ?_
      refine thenQ_n ?_
      by_cases c607 : (↑y536.length : Int) < 5
      ·have hm608 := hm606; rw [if_pos c607] at hm608; replace c607 := Hid.mk c607
       refine CK.condT (decT c607.out) ?_
       refine CK.seq ?_
       refine CK.reg (ks := []) (.fl 0 (.nil)) rfl ?_
       refine OKS.ra rfl rfl rfl rfl rfl rfl ?_
       refine OKS.e ?_
       refine thenQ_n ?_
       refine CK.ret ?_
       refine thenQ_r ?_
       have hE := Option.some.inj hm608; first | subst r | cases hE
       exact ⟨rfl, _, (res1 rfl), φ583, _, (hS589.pick [] _ (by decide) rfl), rfl, rfl⟩
      ·have hm609 := hm606; rw [if_neg c607] at hm609; replace c607 := Hid.mk c607
       refine CK.condF (decF c607.out) ?_
       refine CK.skip ?_
       refine thenQ_n ?_
       refine CK.seq ?_
       refine CK.reg (ks := []) (.fl 0 (.nil)) rfl ?_
       refine OKS.ra rfl rfl rfl rfl rfl rfl ?_
       refine OKS.e ?_
       refine thenQ_n ?_
       refine CK.seq ?_
       refine CK.seq ?_
       refine CK.reg (ks := []) (.fl 0 (.fl 1 (.fl 2 (.nil)))) rfl ?_
       refine OKS.rm rfl rfl rfl rfl rfl f593 ?_
       refine OKS.r rfl rfl rfl rfl (fun _ => Runs.len rfl rfl Tryz.runUnderlying23) ?_
       refine OKS.rm rfl rfl rfl rfl rfl rfl ?_
       refine OKS.e ?_
       refine thenQ_n ?_
       refine CK.block ?_
       have q := bnd hm609
       obtain ⟨y632, hf629, hm628⟩ := q
       have q := forR'_le hf629
       obtain ⟨hle630, hf631⟩ := q
       replace hle630 := Hid.mk hle630
       refine CK.forN' (fun k627 l623 σ_ w_ => ∃ (φ_ : PHeap) (A624 : Option Addr) (c625 : Nat), σ_ 97 = .int .i64 (↑k627 : Int) ∧ σ_ 5 = .slice A539 y536.length c540 ∧ σ_ 12 = .int .i64 x567 ∧ σ_ 14 = .int .i64 x579 ∧ σ_ 16 = .slice A624 l623.length c625 ∧ σ_ 95 = .slice A562 x552.length c563 ∧ σ_ 96 = .int .i64 (↑x552.length : Int) ∧ PHeap.Le φ583 φ_ ∧ St ⟨w, [], φ⟩ φ_ [.blk b10 194 [.slice A537 y533.length c538, .int .i64 y534, .int .u32 y535], .row A624 c625 4 1 (List.flatMap encT l623), .row A562 c563 3 1 (List.flatMap encI x552)] w_) hf631 ?_ ?_ ?_
       ·have hS633 := hS589.nilrow 4 1
        exact ⟨φ583, none, 0, rfl, f592, f595, f597, rfl, rfl, rfl, (PHeap.Le.refl _), (hS633.pick [2, 0, 1] _ (by decide) rfl)⟩
       ·rintro k627 l623 xx637 σ635 W636 hk640 ⟨φ642, A624, c625, fi641, f645, f646, f647, f648, f649, f650, le643, hS644⟩ hx638
        have c651 : Hid ((↑k627 : Int) < (↑x552.length : Int)) := Hid.mk (lp_lt0 hk640)
        replace hk640 := Hid.mk hk640
        have hi652 : Hid (w64 ((↑k627 : Int) + 1) = (↑(k627 + 1) : Int)) := Hid.mk (by have h1 := hle630.out; have h2 := c651.out; rw [w64_in] <;> omega)
        refine CK.seq ?_
        refine CK.reg (ks := []) (.fl 0 (.nil)) rfl ?_
        refine OKS.r rfl rfl rfl rfl (fun _ => Runs.lss rfl fi641 f650) ?_
        refine OKS.e ?_
        refine thenQ_n ?_
        refine CK.seq ?_
        refine CK.condT (decT c651.out) ?_
        refine CK.skip ?_
        refine thenQ_n ?_
        refine CK.seq ?_
        refine CK.block ?_
        refine CK.seq ?_
        refine CK.reg (ks := []) (.fl 0 (.fl 1 (.fl 2 (.nil)))) rfl ?_
        have q := bnd hx638
        obtain ⟨_, h653, hm654⟩ := q
        obtain ⟨b655, hA656⟩ := hS644.rowSome (j := 2) rfl (by rw [flatMap_len (f := encI) (sz := 1) (fun _ => rfl) x552]; have hz := chk_lt h653; omega)
        refine OKS.r rfl rfl rfl rfl (fun _ => Runs.iaN rfl f649 hA656 fi641 Tryz.runUnderlying23 Tryz.sizeOf3 (chk_lt h653)) ?_
        have hg657 := gd_at (xs := x552) (chk_lt h653)
        refine OKS.m rfl rfl rfl rfl (hS644.ldR (j := 2) rfl hA656 rfl rfl Tryz.isAgg3 (flatMap_cell (sz := 1) (fun _ => rfl) _ _ 0 _ hg657 (by first | omega | rfl | simp) rfl)) rfl ?_
        refine OKS.ra rfl rfl rfl rfl rfl rfl ?_
        refine OKS.e ?_
        refine thenQ_n ?_
        refine CK.reg (ks := []) (.fl 0 (.fl 1 (.fl 2 (.fx 3 (.fx 4 (.fl 5 (.nil)) .stop) .stop)))) rfl ?_
        refine OKS.rm rfl rfl rfl rfl rfl f648 ?_
        refine OKS.rm rfl rfl rfl rfl rfl rfl ?_
        refine OKS.r rfl rfl rfl rfl (fun _ => Runs.gtr rfl rfl rfl) ?_
        refine OKS.buildSlice (pv := [(0, .bool (decide (0 < (gd x552 k627))))]) (zs := [.bool false]) (cs := [.bool (decide (0 < (gd x552 k627)))]) rfl rfl rfl rfl rfl (mapcons2 rfl mapnil2) Tryz.runUnderlying52 Tryz.sizeOf4 Tryz.zeroValue4 rfl rfl rfl rfl rfl hS644 ?_
        intro W658 b659 hS660
        have hS662 : St ⟨w, [], φ⟩ φ642 [.row (some ⟨b659, 0, none⟩) 1 4 1 (List.flatMap encT [decide (0 < (gd x552 k627))]), .blk b10 194 [.slice A537 y533.length c538, .int .i64 y534, .int .u32 y535], .row A624 c625 4 1 (List.flatMap encT l623), .row A562 c563 3 1 (List.flatMap encI x552)] W658 := hS660
        have q := bnd hm654
        obtain ⟨x663, h664, hm665⟩ := q
        refine OKS.append (j := 2) (enc := encT) (xs := l623) (ys := [decide (0 < (gd x552 k627))]) (zs := x663) rfl rfl rfl rfl rfl Tryz.underlying52 info4 rfl rfl rfl rfl rfl rfl hS662 rfl rfl rfl (hS662.srcR (j := 0) rfl (by decide) (flatMap_len (f := encT) (sz := 1) (fun _ => rfl) [decide (0 < (gd x552 k627))])) (fun _ => rfl) (fun _ => rfl) h664 rfl ?_
        intro A666 c667 W668 hS669
        have hS670 : St ⟨w, [], φ⟩ φ642 [.row (some ⟨b659, 0, none⟩) 1 4 1 (List.flatMap encT [decide (0 < (gd x552 k627))]), .blk b10 194 [.slice A537 y533.length c538, .int .i64 y534, .int .u32 y535], .row A666 c667 4 1 (List.flatMap encT x663), .row A562 c563 3 1 (List.flatMap encI x552)] W668 := hS669
        refine OKS.ra rfl rfl rfl rfl rfl rfl ?_
        refine OKS.e ?_
        refine blockQ_n ?_
        refine thenQ_n ?_
        refine CK.reg (ks := []) (.fl 0 (.fl 1 (.nil))) rfl ?_
        refine OKS.r rfl rfl rfl rfl (fun _ => Runs.to (Runs.addw rfl fi641 rfl) (congrArg (Value.int .i64) hi652.out)) ?_
        refine OKS.rm rfl rfl rfl rfl rfl rfl ?_
        refine OKS.e ?_
        cases hm665
        exact thenQ_n ⟨rfl, ⟨φ642, A666, c667, rfl, f645, f646, f647, rfl, f649, f650, le643, (hS670.pick [1, 2, 3] _ (by decide) rfl)⟩⟩
       ·rintro σ674 W675 ⟨φ683, A681, c682, fi677, f686, f687, f688, f689, f690, f691, le684, hS685⟩
        have c692 : Hid (¬ ((↑(((↑x552.length : Int) : Int) - 0).toNat : Int) < (↑x552.length : Int))) := Hid.mk (lp_end0)
        refine CK.seq ?_
        refine CK.reg (ks := []) (.fl 0 (.nil)) rfl ?_
        refine OKS.r rfl rfl rfl rfl (fun _ => Runs.lss rfl fi677 f691) ?_
        refine OKS.e ?_
        refine thenQ_n ?_
        refine CK.seq ?_
        refine CK.condF (decF c692.out) ?_
        refine CK.exit ?_
        refine thenQ_e ?_
        refine thenQ_e ?_
        refine blockQ_h ?_
        refine thenQ_n ?_
        refine CK.seq ?_
        refine CK.reg (ks := []) (.fl 0 (.fx 1 (.fl 2 (.fl 3 (.fl 4 (.fx 5 (.fx 6 (.fl 7 (.nil)) .stop) .stop)))) .stop)) rfl ?_
        refine OKS.rm rfl rfl rfl rfl rfl f689 ?_
        have q := hS685.freezeR (k := 1) (n := y632.length) rfl (flatMap_len (f := encT) (sz := 1) (fun _ => rfl) y632) (by decide)
        obtain ⟨φ693, le694, hs695, hS696⟩ := q
        have hS697 : St ⟨w, [], φ⟩ φ693 [.blk b10 194 [.slice A537 y533.length c538, .int .i64 y534, .int .u32 y535], .row A562 c563 3 1 (List.flatMap encI x552)] W675 := hS696
        have q := bnd hm628
        obtain ⟨⟨x698, x699⟩, h700, hm701⟩ := q
        try dsimp only at hm701
        refine OKS.callH 0 rfl rfl rfl rfl (Enters.mk rfl rfl Tryz.call22 (mapcons rfl mapnil) rfl) hS697 (fun hs => w_relay_Shot y632 A681 c682 W675 φ693 hs hs695 h700) (.inr rfl) ?_
        rintro φ702 L703 v704 W705 le706 hS707 ⟨rfl, rfl⟩
        have hS708 : St ⟨w, [], φ⟩ φ702 [.blk b10 194 [.slice A537 y533.length c538, .int .i64 y534, .int .u32 y535], .row A562 c563 3 1 (List.flatMap encI x552)] W705 := hS707
        refine OKS.rm rfl rfl rfl rfl rfl rfl ?_
        refine OKS.r rfl rfl rfl rfl (fun _ => Runs.ext rfl rfl (v := .agg #[.int .i64 x698.Spares, .int .i64 x698.Loops, .int .i64 x698.Unused]) rfl) ?_
        refine OKS.r rfl rfl rfl rfl (fun _ => Runs.ext rfl rfl (v := .int .i64 x699) rfl) ?_
        refine OKS.alloc (cs := [.int .i64 0, .int .i64 0, .int .i64 0]) rfl rfl rfl rfl rfl Tryz.zeroValue49 rfl hS708 ?_
        intro W709 b710 hS711
        refine OKS.st (j := 0) (vs := [.int .i64 x698.Spares, .int .i64 x698.Loops, .int .i64 x698.Unused]) rfl rfl rfl rfl hS711 rfl rfl rfl rfl Tryz.sizeOf49 (Nat.le_of_ble_eq_true rfl) rfl rfl rfl ?_
        intro W713 hS714
        have hS715 : St ⟨w, [], φ⟩ φ702 [.blk b710 49 [.int .i64 x698.Spares, .int .i64 x698.Loops, .int .i64 x698.Unused], .blk b10 194 [.slice A537 y533.length c538, .int .i64 y534, .int .u32 y535], .row A562 c563 3 1 (List.flatMap encI x552)] W713 := hS714
        refine OKS.ra rfl rfl rfl rfl rfl rfl ?_
        refine OKS.e ?_
        refine thenQ_n ?_
        refine CK.seq ?_
        refine CK.reg (ks := []) (.fl 0 (.fl 1 (.fl 2 (.fl 3 (.fl 4 (.fl 5 (.fl 6 (.fl 7 (.fl 8 (.fl 9 (.fl 10 (.fl 11 (.fl 12 (.fl 13 (.fl 14 (.fl 15 (.fl 16 (.fl 17 (.fl 18 (.fl 19 (.fl 20 (.fl 21 (.fl 22 (.fl 23 (.fl 24 (.fl 25 (.fl 26 (.fl 27 (.fx 28 (.fl 29 (.fl 30 (.nil))) .stop))))))))))))))))))))))))))))) rfl ?_
        refine OKS.rm rfl rfl rfl rfl rfl rfl ?_
        refine OKS.r rfl rfl rfl rfl (fun _ => Runs.eql rfl rfl rfl) ?_
        refine OKS.rm rfl rfl rfl rfl rfl rfl ?_
        by_cases c716 : x699 = 0
        ·have hm717 := hm701; rw [if_pos c716] at hm717; replace c716 := Hid.mk c716
         refine OKS.r rfl rfl rfl (wantedY rfl rfl (decT c716.out)) (fun _ => Runs.fa rfl rfl Tryz.runUnderlying49 rfl Tryz.sizeOf3) ?_
         refine OKS.m rfl rfl rfl (wantedY rfl rfl (decT c716.out)) (hS715.ldB (j := 0) rfl rfl rfl Tryz.isAgg3 (v := .int .i64 x698.Loops) rfl) rfl ?_
         refine OKS.rm rfl rfl rfl (wantedY rfl rfl (decT c716.out)) rfl f687 ?_
         refine OKS.r rfl rfl rfl (wantedY rfl rfl (decT c716.out)) (fun _ => Runs.eql rfl rfl rfl) ?_
         refine OKS.r rfl rfl rfl rfl (fun _ => Runs.pickT rfl (decT c716.out) rfl) ?_
         refine OKS.rm rfl rfl rfl rfl rfl rfl ?_
         by_cases c718 : x698.Loops = x567
         ·have hm719 := hm717; rw [if_pos c718] at hm719; replace c718 := Hid.mk c718
          refine OKS.r rfl rfl rfl (wantedY rfl rfl (decT c718.out)) (fun _ => Runs.fa rfl rfl Tryz.runUnderlying49 rfl Tryz.sizeOf3) ?_
          refine OKS.m rfl rfl rfl (wantedY rfl rfl (decT c718.out)) (hS715.ldB (j := 0) rfl rfl rfl Tryz.isAgg3 (v := .int .i64 x698.Spares) rfl) rfl ?_
          refine OKS.rm rfl rfl rfl (wantedY rfl rfl (decT c718.out)) rfl f688 ?_
          refine OKS.r rfl rfl rfl (wantedY rfl rfl (decT c718.out)) (fun _ => Runs.eql rfl rfl rfl) ?_
          refine OKS.r rfl rfl rfl rfl (fun _ => Runs.pickT rfl (decT c718.out) rfl) ?_
          refine OKS.rm rfl rfl rfl rfl rfl rfl ?_
          by_cases c720 : x698.Spares = x579
          ·have hm721 := hm719; rw [if_pos c720] at hm721; replace c720 := Hid.mk c720
           refine OKS.r rfl rfl rfl (wantedY rfl rfl (decT c720.out)) (fun _ => Runs.fa rfl rfl Tryz.runUnderlying49 rfl Tryz.sizeOf3) ?_
           refine OKS.m rfl rfl rfl (wantedY rfl rfl (decT c720.out)) (hS715.ldB (j := 0) rfl rfl rfl Tryz.isAgg3 (v := .int .i64 x698.Unused) rfl) rfl ?_
           refine OKS.r rfl rfl rfl (wantedY rfl rfl (decT c720.out)) (fun _ => Runs.gtr rfl rfl rfl) ?_
           refine OKS.rm rfl rfl rfl (wantedY rfl rfl (decT c720.out)) rfl f687 ?_
           refine OKS.r rfl rfl rfl (wantedY rfl rfl (decT c720.out)) (fun _ => Runs.gtr rfl rfl rfl) ?_
           refine OKS.rm rfl rfl rfl (wantedY rfl rfl (decT c720.out)) rfl rfl ?_
           by_cases c722 : 0 < x567
           ·have hm723 := hm721; rw [if_pos c722] at hm723; replace c722 := Hid.mk c722
            refine OKS.rm rfl rfl rfl (wantedY rfl rfl (decT c722.out)) rfl f686 ?_
            refine OKS.r rfl rfl rfl (wantedY rfl rfl (decT c722.out)) (fun _ => Runs.len rfl rfl Tryz.runUnderlying81) ?_
            refine OKS.r rfl rfl rfl (wantedY rfl rfl (decT c722.out)) (fun _ => Runs.lss rfl rfl rfl) ?_
            refine OKS.r rfl rfl rfl (wantedY rfl rfl (decT c720.out)) (fun _ => Runs.pickT rfl (decT c722.out) rfl) ?_
            refine OKS.r rfl rfl rfl (wantedY rfl rfl (decT c720.out)) (fun _ => Runs.eqB rfl rfl rfl Tryz.runUnderlying4) ?_
            refine OKS.r rfl rfl rfl rfl (fun _ => Runs.pickT rfl (decT c720.out) rfl) ?_
            refine OKS.rm rfl rfl rfl rfl rfl rfl ?_
            by_cases c724 : ((decide (0 < x698.Unused)) == (decide ((↑y536.length : Int) < 8))) = true
            ·have hm725 := hm723; rw [if_pos c724] at hm725; replace c724 := Hid.mk c724
             have q := bnd hm725
             obtain ⟨x726, h727, hm728⟩ := q
             refine OKS.callH 0 rfl rfl rfl (wantedY rfl rfl (congrArg Value.bool c724.out)) (Enters.mk rfl rfl Tryz.call27 mapnil rfl) hS715 (fun hs => w_klisterlaw08_awake W713 φ702 hs h727) (.inr rfl) ?_
             rintro φ729 L730 v731 W732 le733 hS734 ⟨rfl, rfl⟩
             have hS735 : St ⟨w, [], φ⟩ φ729 [.blk b710 49 [.int .i64 x698.Spares, .int .i64 x698.Loops, .int .i64 x698.Unused], .blk b10 194 [.slice A537 y533.length c538, .int .i64 y534, .int .u32 y535], .row A562 c563 3 1 (List.flatMap encI x552)] W732 := hS734
             refine OKS.r rfl rfl rfl rfl (fun _ => Runs.pickT rfl (congrArg Value.bool c724.out) rfl) ?_
             refine OKS.ra rfl rfl rfl rfl rfl rfl ?_
             refine OKS.e ?_
             refine thenQ_n ?_
             refine CK.ret ?_
             have hE := Option.some.inj hm728; first | subst r | cases hE
             exact ⟨rfl, _, (res1 rfl), φ729, _, (hS735.pick [] _ (by decide) rfl), rfl, rfl⟩
            ·have hm736 := hm723; rw [if_neg c724] at hm736; replace c724 := Hid.mk c724
             refine OKS.px rfl rfl rfl (wantedN rfl rfl (congrArg Value.bool (Bool.eq_false_iff.2 c724.out)) rfl) ?_
             refine OKS.r rfl rfl rfl rfl (fun _ => Runs.pickF rfl (congrArg Value.bool (Bool.eq_false_iff.2 c724.out)) rfl) ?_
             refine OKS.ra rfl rfl rfl rfl rfl rfl ?_
             refine OKS.e ?_
             refine thenQ_n ?_
             refine CK.ret ?_
             have hE := Option.some.inj hm736; first | subst r | cases hE
             exact ⟨rfl, _, (res1 rfl), φ702, _, (hS715.pick [] _ (by decide) rfl), rfl, rfl⟩
           ·have hm737 := hm721; rw [if_neg c722] at hm737; replace c722 := Hid.mk c722
            refine OKS.p rfl rfl rfl (wantedN rfl rfl (decF c722.out) rfl) ?_
            refine OKS.p rfl rfl rfl (wantedN rfl rfl (decF c722.out) rfl) ?_
            refine OKS.p rfl rfl rfl (wantedN rfl rfl (decF c722.out) rfl) ?_
            refine OKS.r rfl rfl rfl (wantedY rfl rfl (decT c720.out)) (fun _ => Runs.pickF rfl (decF c722.out) rfl) ?_
            refine OKS.r rfl rfl rfl (wantedY rfl rfl (decT c720.out)) (fun _ => Runs.eqB rfl rfl rfl Tryz.runUnderlying4) ?_
            refine OKS.r rfl rfl rfl rfl (fun _ => Runs.pickT rfl (decT c720.out) rfl) ?_
            refine OKS.rm rfl rfl rfl rfl rfl rfl ?_
            by_cases c738 : ((decide (0 < x698.Unused)) == false) = true
            ·have hm739 := hm737; rw [if_pos c738] at hm739; replace c738 := Hid.mk c738
             have q := bnd hm739
             obtain ⟨x740, h741, hm742⟩ := q
             refine OKS.callH 0 rfl rfl rfl (wantedY rfl rfl (congrArg Value.bool c738.out)) (Enters.mk rfl rfl Tryz.call27 mapnil rfl) hS715 (fun hs => w_klisterlaw08_awake W713 φ702 hs h741) (.inr rfl) ?_
             rintro φ743 L744 v745 W746 le747 hS748 ⟨rfl, rfl⟩
             have hS749 : St ⟨w, [], φ⟩ φ743 [.blk b710 49 [.int .i64 x698.Spares, .int .i64 x698.Loops, .int .i64 x698.Unused], .blk b10 194 [.slice A537 y533.length c538, .int .i64 y534, .int .u32 y535], .row A562 c563 3 1 (List.flatMap encI x552)] W746 := hS748
             refine OKS.r rfl rfl rfl rfl (fun _ => Runs.pickT rfl (congrArg Value.bool c738.out) rfl) ?_
             refine OKS.ra rfl rfl rfl rfl rfl rfl ?_
             refine OKS.e ?_
             refine thenQ_n ?_
             refine CK.ret ?_
             have hE := Option.some.inj hm742; first | subst r | cases hE
             exact ⟨rfl, _, (res1 rfl), φ743, _, (hS749.pick [] _ (by decide) rfl), rfl, rfl⟩
            ·have hm750 := hm737; rw [if_neg c738] at hm750; replace c738 := Hid.mk c738
             refine OKS.px rfl rfl rfl (wantedN rfl rfl (congrArg Value.bool (Bool.eq_false_iff.2 c738.out)) rfl) ?_
             refine OKS.r rfl rfl rfl rfl (fun _ => Runs.pickF rfl (congrArg Value.bool (Bool.eq_false_iff.2 c738.out)) rfl) ?_
             refine OKS.ra rfl rfl rfl rfl rfl rfl ?_
             refine OKS.e ?_
             refine thenQ_n ?_
             refine CK.ret ?_
             have hE := Option.some.inj hm750; first | subst r | cases hE
             exact ⟨rfl, _, (res1 rfl), φ702, _, (hS715.pick [] _ (by decide) rfl), rfl, rfl⟩
          ·have hm751 := hm719; rw [if_neg c720] at hm751; replace c720 := Hid.mk c720
           refine OKS.p rfl rfl rfl (wantedN rfl rfl (decF c720.out) rfl) ?_
           refine OKS.p rfl rfl rfl (wantedN rfl rfl (decF c720.out) rfl) ?_
           refine OKS.p rfl rfl rfl (wantedN rfl rfl (decF c720.out) rfl) ?_
           refine OKS.p rfl rfl rfl (wantedN rfl rfl (decF c720.out) rfl) ?_
           refine OKS.p rfl rfl rfl (wantedN rfl rfl (decF c720.out) rfl) ?_
           refine OKS.p rfl rfl rfl (wantedN rfl rfl (decF c720.out) rfl) ?_
           refine OKS.p rfl rfl rfl (wantedU rfl rfl rfl) ?_
           refine OKS.p rfl rfl rfl (wantedU rfl rfl rfl) ?_
           refine OKS.p rfl rfl rfl (wantedU rfl rfl rfl) ?_
           refine OKS.p rfl rfl rfl (wantedN rfl rfl (decF c720.out) rfl) ?_
           refine OKS.p rfl rfl rfl (wantedN rfl rfl (decF c720.out) rfl) ?_
           refine OKS.r rfl rfl rfl rfl (fun _ => Runs.pickF rfl (decF c720.out) rfl) ?_
           refine OKS.rm rfl rfl rfl rfl rfl rfl ?_
           refine OKS.px rfl rfl rfl (wantedN rfl rfl rfl rfl) ?_
           refine OKS.r rfl rfl rfl rfl (fun _ => Runs.pickF rfl rfl rfl) ?_
           refine OKS.ra rfl rfl rfl rfl rfl rfl ?_
           refine OKS.e ?_
           refine thenQ_n ?_
           refine CK.ret ?_
           have hE := Option.some.inj hm751; first | subst r | cases hE
           exact ⟨rfl, _, (res1 rfl), φ702, _, (hS715.pick [] _ (by decide) rfl), rfl, rfl⟩
         ·have hm752 := hm717; rw [if_neg c718] at hm752; replace c718 := Hid.mk c718
          refine OKS.p rfl rfl rfl (wantedN rfl rfl (decF c718.out) rfl) ?_
          refine OKS.p rfl rfl rfl (wantedN rfl rfl (decF c718.out) rfl) ?_
          refine OKS.p rfl rfl rfl (wantedN rfl rfl (decF c718.out) rfl) ?_
          refine OKS.p rfl rfl rfl (wantedN rfl rfl (decF c718.out) rfl) ?_
          refine OKS.r rfl rfl rfl rfl (fun _ => Runs.pickF rfl (decF c718.out) rfl) ?_
          refine OKS.rm rfl rfl rfl rfl rfl rfl ?_
          refine OKS.p rfl rfl rfl (wantedN rfl rfl rfl rfl) ?_
          refine OKS.p rfl rfl rfl (wantedN rfl rfl rfl rfl) ?_
          refine OKS.p rfl rfl rfl (wantedN rfl rfl rfl rfl) ?_
          refine OKS.p rfl rfl rfl (wantedN rfl rfl rfl rfl) ?_
          refine OKS.p rfl rfl rfl (wantedN rfl rfl rfl rfl) ?_
          refine OKS.p rfl rfl rfl (wantedN rfl rfl rfl rfl) ?_
          refine OKS.p rfl rfl rfl (wantedU rfl rfl rfl) ?_
          refine OKS.p rfl rfl rfl (wantedU rfl rfl rfl) ?_
          refine OKS.p rfl rfl rfl (wantedU rfl rfl rfl) ?_
          refine OKS.p rfl rfl rfl (wantedN rfl rfl rfl rfl) ?_
          refine OKS.p rfl rfl rfl (wantedN rfl rfl rfl rfl) ?_
          refine OKS.r rfl rfl rfl rfl (fun _ => Runs.pickF rfl rfl rfl) ?_
          refine OKS.rm rfl rfl rfl rfl rfl rfl ?_
          refine OKS.px rfl rfl rfl (wantedN rfl rfl rfl rfl) ?_
          refine OKS.r rfl rfl rfl rfl (fun _ => Runs.pickF rfl rfl rfl) ?_
          refine OKS.ra rfl rfl rfl rfl rfl rfl ?_
          refine OKS.e ?_
          refine thenQ_n ?_
          refine CK.ret ?_
          have hE := Option.some.inj hm752; first | subst r | cases hE
          exact ⟨rfl, _, (res1 rfl), φ702, _, (hS715.pick [] _ (by decide) rfl), rfl, rfl⟩
        ·have hm753 := hm701; rw [if_neg c716] at hm753; replace c716 := Hid.mk c716
         refine OKS.p rfl rfl rfl (wantedN rfl rfl (decF c716.out) rfl) ?_
         refine OKS.p rfl rfl rfl (wantedN rfl rfl (decF c716.out) rfl) ?_
         refine OKS.p rfl rfl rfl (wantedN rfl rfl (decF c716.out) rfl) ?_
         refine OKS.p rfl rfl rfl (wantedN rfl rfl (decF c716.out) rfl) ?_
         refine OKS.r rfl rfl rfl rfl (fun _ => Runs.pickF rfl (decF c716.out) rfl) ?_
         refine OKS.rm rfl rfl rfl rfl rfl rfl ?_
         refine OKS.p rfl rfl rfl (wantedN rfl rfl rfl rfl) ?_
         refine OKS.p rfl rfl rfl (wantedN rfl rfl rfl rfl) ?_
         refine OKS.p rfl rfl rfl (wantedN rfl rfl rfl rfl) ?_
         refine OKS.p rfl rfl rfl (wantedN rfl rfl rfl rfl) ?_
         refine OKS.r rfl rfl rfl rfl (fun _ => Runs.pickF rfl rfl rfl) ?_
         refine OKS.rm rfl rfl rfl rfl rfl rfl ?_
         refine OKS.p rfl rfl rfl (wantedN rfl rfl rfl rfl) ?_
         refine OKS.p rfl rfl rfl (wantedN rfl rfl rfl rfl) ?_
         refine OKS.p rfl rfl rfl (wantedN rfl rfl rfl rfl) ?_
         refine OKS.p rfl rfl rfl (wantedN rfl rfl rfl rfl) ?_
         refine OKS.p rfl rfl rfl (wantedN rfl rfl rfl rfl) ?_
         refine OKS.p rfl rfl rfl (wantedN rfl rfl rfl rfl) ?_
         refine OKS.p rfl rfl rfl (wantedU rfl rfl rfl) ?_
         refine OKS.p rfl rfl rfl (wantedU rfl rfl rfl) ?_
         refine OKS.p rfl rfl rfl (wantedU rfl rfl rfl) ?_
         refine OKS.p rfl rfl rfl (wantedN rfl rfl rfl rfl) ?_
         refine OKS.p rfl rfl rfl (wantedN rfl rfl rfl rfl) ?_
         refine OKS.r rfl rfl rfl rfl (fun _ => Runs.pickF rfl rfl rfl) ?_
         refine OKS.rm rfl rfl rfl rfl rfl rfl ?_
         refine OKS.px rfl rfl rfl (wantedN rfl rfl rfl rfl) ?_
         refine OKS.r rfl rfl rfl rfl (fun _ => Runs.pickF rfl rfl rfl) ?_
         refine OKS.ra rfl rfl rfl rfl rfl rfl ?_
         refine OKS.e ?_
         refine thenQ_n ?_
         refine CK.ret ?_
         have hE := Option.some.inj hm753; first | subst r | cases hE
         exact ⟨rfl, _, (res1 rfl), φ702, _, (hS715.pick [] _ (by decide) rfl), rfl, rfl⟩
     ·have hm754 := hm604; rw [if_neg c605] at hm754; replace c605 := Hid.mk c605
      refine OKS.p rfl rfl rfl (wantedN rfl rfl (decT c605.out) rfl) ?_
      refine OKS.p rfl rfl rfl (wantedN rfl rfl (decT c605.out) rfl) ?_
      refine OKS.p rfl rfl rfl (wantedN rfl rfl (decT c605.out) rfl) ?_
      refine OKS.r rfl rfl rfl rfl (fun _ => Runs.pickT rfl (decT c605.out) rfl) ?_
      refine OKS.e ?_
      refine thenQ_n ?_
      refine CK.condT rfl ?_
      refine CK.seq ?_
      refine CK.reg (ks := []) (.fl 0 (.nil)) rfl ?_
      refine OKS.ra rfl rfl rfl rfl rfl rfl ?_
      refine OKS.e ?_
      refine thenQ_n ?_
      refine CK.ret ?_
      refine thenQ_r ?_
      have hE := Option.some.inj hm754; first | subst r | cases hE
      exact ⟨rfl, _, (res1 rfl), φ583, _, (hS589.pick [] _ (by decide) rfl), rfl, rfl⟩
    ·have hm755 := hm602; rw [if_neg c603] at hm755; replace c603 := Hid.mk c603
     refine OKS.p rfl rfl rfl (wantedN rfl rfl (decT c603.out) rfl) ?_
     refine OKS.p rfl rfl rfl (wantedN rfl rfl (decT c603.out) rfl) ?_
     refine OKS.p rfl rfl rfl (wantedN rfl rfl (decT c603.out) rfl) ?_
     refine OKS.p rfl rfl rfl (wantedN rfl rfl (decT c603.out) rfl) ?_
     refine OKS.p rfl rfl rfl (wantedN rfl rfl (decT c603.out) rfl) ?_
     refine OKS.r rfl rfl rfl rfl (fun _ => Runs.pickT rfl (decT c603.out) rfl) ?_
     refine OKS.rm rfl rfl rfl rfl rfl rfl ?_
     refine OKS.p rfl rfl rfl (wantedN rfl rfl rfl rfl) ?_
     refine OKS.p rfl rfl rfl (wantedN rfl rfl rfl rfl) ?_
     refine OKS.p rfl rfl rfl (wantedN rfl rfl rfl rfl) ?_
     refine OKS.r rfl rfl rfl rfl (fun _ => Runs.pickT rfl rfl rfl) ?_
     refine OKS.e ?_
     refine thenQ_n ?_
     refine CK.condT rfl ?_
     refine CK.seq ?_
     refine CK.reg (ks := []) (.fl 0 (.nil)) rfl ?_
     refine OKS.ra rfl rfl rfl rfl rfl rfl ?_
     refine OKS.e ?_
     refine thenQ_n ?_
     refine CK.ret ?_
     refine thenQ_r ?_
     have hE := Option.some.inj hm755; first | subst r | cases hE
     exact ⟨rfl, _, (res1 rfl), φ583, _, (hS589.pick [] _ (by decide) rfl), rfl, rfl⟩
   ·have hm756 := hm600; rw [if_neg c601] at hm756; replace c601 := Hid.mk c601
    refine OKS.p rfl rfl rfl (wantedN rfl rfl (decT c601.out) rfl) ?_
    refine OKS.p rfl rfl rfl (wantedN rfl rfl (decT c601.out) rfl) ?_
    refine OKS.r rfl rfl rfl rfl (fun _ => Runs.pickT rfl (decT c601.out) rfl) ?_
    refine OKS.rm rfl rfl rfl rfl rfl rfl ?_
    refine OKS.p rfl rfl rfl (wantedN rfl rfl rfl rfl) ?_
    refine OKS.p rfl rfl rfl (wantedN rfl rfl rfl rfl) ?_
    refine OKS.p rfl rfl rfl (wantedN rfl rfl rfl rfl) ?_
    refine OKS.p rfl rfl rfl (wantedN rfl rfl rfl rfl) ?_
    refine OKS.p rfl rfl rfl (wantedN rfl rfl rfl rfl) ?_
    refine OKS.r rfl rfl rfl rfl (fun _ => Runs.pickT rfl rfl rfl) ?_
    refine OKS.rm rfl rfl rfl rfl rfl rfl ?_
    refine OKS.p rfl rfl rfl (wantedN rfl rfl rfl rfl) ?_
    refine OKS.p rfl rfl rfl (wantedN rfl rfl rfl rfl) ?_
    refine OKS.p rfl rfl rfl (wantedN rfl rfl rfl rfl) ?_
    refine OKS.r rfl rfl rfl rfl (fun _ => Runs.pickT rfl rfl rfl) ?_
    refine OKS.e ?_
    refine thenQ_n ?_
    refine CK.condT rfl ?_
    refine CK.seq ?_
    refine CK.reg (ks := []) (.fl 0 (.nil)) rfl ?_
    refine OKS.ra rfl rfl rfl rfl rfl rfl ?_
    refine OKS.e ?_
    refine thenQ_n ?_
    refine CK.ret ?_
    refine thenQ_r ?_
    have hE := Option.some.inj hm756; first | subst r | cases hE
    exact ⟨rfl, _, (res1 rfl), φ583, _, (hS589.pick [] _ (by decide) rfl), rfl, rfl⟩
  ·have hm757 := hm582; rw [if_neg c599] at hm757; replace c599 := Hid.mk c599
   refine OKS.p rfl rfl rfl (wantedN rfl rfl (decT c599.out) rfl) ?_
   refine OKS.p rfl rfl rfl (wantedN rfl rfl (decT c599.out) rfl) ?_
   refine OKS.r rfl rfl rfl rfl (fun _ => Runs.pickT rfl (decT c599.out) rfl) ?_
   refine OKS.rm rfl rfl rfl rfl rfl rfl ?_
   refine OKS.p rfl rfl rfl (wantedN rfl rfl rfl rfl) ?_
   refine OKS.p rfl rfl rfl (wantedN rfl rfl rfl rfl) ?_
   refine OKS.r rfl rfl rfl rfl (fun _ => Runs.pickT rfl rfl rfl) ?_
   refine OKS.rm rfl rfl rfl rfl rfl rfl ?_
   refine OKS.p rfl rfl rfl (wantedN rfl rfl rfl rfl) ?_
   refine OKS.p rfl rfl rfl (wantedN rfl rfl rfl rfl) ?_
   refine OKS.p rfl rfl rfl (wantedN rfl rfl rfl rfl) ?_
   refine OKS.p rfl rfl rfl (wantedN rfl rfl rfl rfl) ?_
   refine OKS.p rfl rfl rfl (wantedN rfl rfl rfl rfl) ?_
   refine OKS.r rfl rfl rfl rfl (fun _ => Runs.pickT rfl rfl rfl) ?_
   refine OKS.rm rfl rfl rfl rfl rfl rfl ?_
   refine OKS.p rfl rfl rfl (wantedN rfl rfl rfl rfl) ?_
   refine OKS.p rfl rfl rfl (wantedN rfl rfl rfl rfl) ?_
   refine OKS.p rfl rfl rfl (wantedN rfl rfl rfl rfl) ?_
   refine OKS.r rfl rfl rfl rfl (fun _ => Runs.pickT rfl rfl rfl) ?_
   refine OKS.e ?_
   refine thenQ_n ?_
   refine CK.condT rfl ?_
   refine CK.seq ?_
   refine CK.reg (ks := []) (.fl 0 (.nil)) rfl ?_
   refine OKS.ra rfl rfl rfl rfl rfl rfl ?_
   refine OKS.e ?_
   refine thenQ_n ?_
   refine CK.ret ?_
   refine thenQ_r ?_
   have hE := Option.some.inj hm757; first | subst r | cases hE
   exact ⟨rfl, _, (res1 rfl), φ583, _, (hS589.pick [] _ (by decide) rfl), rfl, rfl⟩
end Go.Proofs.YtjfffcjjlnmneaaGreat
