/- Walks, printed by a program: each function does what its model says. -/
import Derived.Test.YtaoaelhmiggepaaEnc
import Derived.Test.YtaoaelhmiggepaaW0
import Derived.Test.YtaoaelhmiggepaaW1
import Derived.Test.YtaoaelhmiggepaaW2
import Derived.Test.YtaoaelhmiggepaaW3
import Derived.Test.YtaoaelhmiggepaaW4
namespace Go.Proofs.Ytaoaelhmiggepaa
open Go.KL
set_option maxHeartbeats 4000000 in
theorem w_target_Round (p0 : List Int) (pA0 : Option Addr) (pc0 : Nat) (p1 : List T_target_Sheet) (pA1 : Option Addr) (pc1 : Nat) (w : World) (φ : PHeap) (hS : St ⟨w, [], φ⟩ φ [] w) (ha0 : Sl φ 1 pA0 pc0 p0.length (List.flatMap encI p0)) (ha1 : Sl φ 4 pA1 pc1 p1.length (List.flatMap encT_target_Sheet p1)) {r : (List T_target_Step) × Int} (hm : m_target_Round p0 p1 = some r) : Gv Try.prog 20 [.slice pA0 p0.length pc0, .slice pA1 p1.length pc1] w (RetS w [] φ (fun φ_ L_ v => ∃ (A0 : Option Addr) (c0 : Nat), v = .tuple #[.slice A0 r.1.length c0, .int .i64 r.2] ∧ L_ = [.row A0 c0 35 2 (List.flatMap encT_target_Step r.1)])) := by
 unfold m_target_Round at hm
 refine Gv.of Try.func20 rfl Try.ntmps20 Try.results20 rfl ?_
 refine CK.seq ?_
 refine CK.reg (ks := []) (.fl 0 (.fl 1 (.nil))) rfl ?_
 refine OKS.ra rfl rfl rfl rfl rfl rfl ?_
 refine OKS.ra rfl rfl rfl rfl rfl rfl ?_
 refine OKS.e ?_
 refine thenQ_n ?_
 refine CK.seq ?_
 refine CK.seq ?_
 refine CK.reg (ks := []) (.fl 0 (.fl 1 (.fx 2 (.fl 3 (.nil)) .stop))) rfl ?_
 refine OKS.rm rfl rfl rfl rfl rfl rfl ?_
 refine OKS.rm rfl rfl rfl rfl rfl rfl ?_
 have q := bnd hm
 obtain ⟨x1, h2, hm3⟩ := q
 refine OKS.callH 0 rfl rfl rfl rfl (Enters.mk rfl rfl Try.call64 (mapcons rfl (mapcons rfl mapnil)) rfl) hS (fun hs => w_target_due p0 pA0 pc0 p1 pA1 pc1 w φ hs ha0 ha1 h2) (.inr rfl) ?_
 rintro φ4 L5 v6 W7 le8 hS9 ⟨rfl, rfl⟩
 have hS10 : St ⟨w, [], φ⟩ φ4 [] W7 := hS9
 refine OKS.ra rfl rfl rfl rfl rfl rfl ?_
 refine OKS.e ?_
 refine thenQ_n ?_
 refine CK.seq ?_
 refine CK.reg (ks := []) (.fl 0 (.fl 1 (.nil))) rfl ?_
 refine OKS.rm rfl rfl rfl rfl rfl rfl ?_
 refine OKS.r rfl rfl rfl rfl (fun _ => Runs.neq rfl rfl rfl) ?_
 refine OKS.e ?_
 refine thenQ_n ?_
 by_cases c11 : x1 = 0
 ·have hm12 := hm3; rw [if_pos c11] at hm12; replace c11 := Hid.mk c11
  refine CK.condF (decF (fun h => h c11.out)) ?_
  refine CK.skip ?_
  refine thenQ_n ?_
  refine CK.seq ?_
  refine CK.reg (ks := []) (.fl 0 (.fl 1 (.fl 2 (.nil)))) rfl ?_
  refine OKS.rm rfl rfl rfl rfl rfl rfl ?_
  refine OKS.r rfl rfl rfl rfl (fun _ => Runs.len rfl rfl Try.runUnderlying22) ?_
  refine OKS.ra rfl rfl rfl rfl rfl rfl ?_
  refine OKS.e ?_
  refine thenQ_n ?_
  refine CK.seq ?_
  refine CK.seq ?_
  refine CK.reg (ks := []) (.fl 0 (.fl 1 (.fl 2 (.fx 3 (.fx 4 (.fl 5 (.nil)) .stop) .stop)))) rfl ?_
  refine OKS.rm rfl rfl rfl rfl rfl rfl ?_
  refine OKS.rm rfl rfl rfl rfl rfl rfl ?_
  refine OKS.rm rfl rfl rfl rfl rfl rfl ?_
  have h13 := ha1.le le8
  have q := bnd hm12
  obtain ⟨x14, h15, hm16⟩ := q
  refine OKS.callH 0 rfl rfl rfl rfl (Enters.mk rfl rfl Try.call66 (mapcons rfl (mapcons rfl (mapcons rfl mapnil))) rfl) hS10 (fun hs => w_target_links (↑p0.length : Int) p1 pA1 pc1 [] none 0 W7 φ4 hs h13 (by first | exact Sl.nil _ _ _ _ | exact SlR.nil) h15) (.inr rfl) ?_
  rintro φ17 L18 v19 W20 le21 hS22 ⟨A23, c24, c25, rfl, rfl, h27⟩
  have hS28 : St ⟨w, [], φ⟩ φ17 [.row A23 c24 134 5 c25] W20 := hS22
  have q := hS28.freezeRR (R := rl134) (k := 0) rfl h27 rfl (by decide)
  obtain ⟨φ29, le30, hs31, hS32⟩ := q
  have hS33 : St ⟨w, [], φ⟩ φ29 [] W20 := hS32
  have q := bnd hm16
  obtain ⟨x34, h35, hm36⟩ := q
  refine OKS.callH 0 rfl rfl rfl rfl (Enters.mk rfl rfl Try.call72 (mapcons rfl (mapcons rfl mapnil)) rfl) hS33 (fun hs => w_target_round (↑p0.length : Int) x14 A23 c24 W20 φ29 hs hs31 h35) (.inr rfl) ?_
  rintro φ37 L38 v39 W40 le41 hS42 ⟨A43, c44, rfl, rfl, h46⟩
  have hS47 : St ⟨w, [], φ⟩ φ37 [.row A43 c44 35 2 (List.flatMap encT_target_Step x34)] W40 := hS42
  refine OKS.ra rfl rfl rfl rfl rfl rfl ?_
  refine OKS.e ?_
  refine thenQ_n ?_
  refine CK.seq ?_
  refine CK.reg (ks := []) (.fl 0 (.fl 1 (.nil))) rfl ?_
  refine OKS.rm rfl rfl rfl rfl rfl rfl ?_
  have h48 : A43.isNone = decide (x34 = []) := nil_iff (j := 0) hS47 rfl (fun _ => rfl) (by decide) h46
  refine OKS.r rfl rfl rfl rfl (fun _ => Runs.neNilR (b := decide (¬ (x34 = []))) rfl rfl rfl Try.runUnderlying24 (by simp [h48])) ?_
  refine OKS.e ?_
  refine thenQ_n ?_
  by_cases c49 : x34 = []
  ·have hm50 := hm36; rw [if_pos c49] at hm50; replace c49 := Hid.mk c49
   refine CK.condF (decF (fun h => h c49.out)) ?_
   refine CK.skip ?_
   refine thenQ_n ?_
   refine CK.seq ?_
   refine CK.seq ?_
   refine CK.reg (ks := []) (.fl 0 (.fl 1 (.fl 2 (.fl 3 (.fx 4 (.fx 5 (.fl 6 (.nil)) .stop) .stop))))) rfl ?_
   refine OKS.rm rfl rfl rfl rfl rfl rfl ?_
   refine OKS.rm rfl rfl rfl rfl rfl rfl ?_
   refine OKS.rm rfl rfl rfl rfl rfl rfl ?_
   refine OKS.rm rfl rfl rfl rfl rfl rfl ?_
   have h51 := h13.le le21
   have h52 := h51.le le30
   have h53 := h52.le le41
   have h54 := ha0.le le8
   have h55 := h54.le le21
   have h56 := h55.le le30
   have h57 := h56.le le41
   have q := bnd hm50
   obtain ⟨x58, h59, hm60⟩ := q
   refine OKS.callH 0 rfl rfl rfl rfl (Enters.mk rfl rfl Try.call66 (mapcons rfl (mapcons rfl (mapcons rfl mapnil))) rfl) hS47 (fun hs => w_target_links (↑p0.length : Int) p1 pA1 pc1 p0 pA0 pc0 W40 φ37 hs h53 h57 h59) (.inr rfl) ?_
   rintro φ61 L62 v63 W64 le65 hS66 ⟨A67, c68, c69, rfl, rfl, h71⟩
   have hS72 : St ⟨w, [], φ⟩ φ61 [.row A67 c68 134 5 c69, .row A43 c44 35 2 (List.flatMap encT_target_Step x34)] W64 := hS66
   have q := hS72.freezeRR (R := rl134) (k := 0) rfl h71 rfl (by decide)
   obtain ⟨φ73, le74, hs75, hS76⟩ := q
   have hS77 : St ⟨w, [], φ⟩ φ73 [.row A43 c44 35 2 (List.flatMap encT_target_Step x34)] W64 := hS76
   have q := bnd hm60
   obtain ⟨x78, h79, hm80⟩ := q
   refine OKS.callH 0 rfl rfl rfl rfl (Enters.mk rfl rfl Try.call72 (mapcons rfl (mapcons rfl mapnil)) rfl) hS77 (fun hs => w_target_round (↑p0.length : Int) x58 A67 c68 W64 φ73 hs hs75 h79) (.inr rfl) ?_
   rintro φ81 L82 v83 W84 le85 hS86 ⟨A87, c88, rfl, rfl, h90⟩
   have hS91 : St ⟨w, [], φ⟩ φ81 [.row A87 c88 35 2 (List.flatMap encT_target_Step x78), .row A43 c44 35 2 (List.flatMap encT_target_Step x34)] W84 := hS86
   refine OKS.ra rfl rfl rfl rfl rfl rfl ?_
   refine OKS.e ?_
   refine thenQ_n ?_
   refine CK.seq ?_
   refine CK.reg (ks := []) (.fl 0 (.fl 1 (.nil))) rfl ?_
   refine OKS.rm rfl rfl rfl rfl rfl rfl ?_
   have h92 : A87.isNone = decide (x78 = []) := nil_iff (j := 0) hS91 rfl (fun _ => rfl) (by decide) h90
   refine OKS.r rfl rfl rfl rfl (fun _ => Runs.neNilR (b := decide (¬ (x78 = []))) rfl rfl rfl Try.runUnderlying24 (by simp [h92])) ?_
   refine OKS.e ?_
   refine thenQ_n ?_
   by_cases c93 : x78 = []
   ·have hm94 := hm80; rw [if_pos c93] at hm94; replace c93 := Hid.mk c93
    refine CK.condF (decF (fun h => h c93.out)) ?_
    refine CK.skip ?_
    refine thenQ_n ?_
    refine CK.seq ?_
    refine CK.reg (ks := []) (.fl 0 (.fl 1 (.nil))) rfl ?_
    refine OKS.ra rfl rfl rfl rfl rfl rfl ?_
    refine OKS.ra rfl rfl rfl rfl rfl rfl ?_
    refine OKS.e ?_
    refine thenQ_n ?_
    refine CK.ret ?_
    have hS95 := hS91.nilrow 35 2
    cases hm94
    exact ⟨rfl, _, (res2 rfl rfl), φ81, _, (hS95.pick [0] _ (by decide) rfl), none, 0, rfl, rfl⟩
   ·have hm97 := hm80; rw [if_neg c93] at hm97; replace c93 := Hid.mk c93
    refine CK.condT (decT c93.out) ?_
    refine CK.seq ?_
    refine CK.reg (ks := []) (.fl 0 (.fl 1 (.fl 2 (.nil)))) rfl ?_
    refine OKS.rm rfl rfl rfl rfl rfl rfl ?_
    refine OKS.ra rfl rfl rfl rfl rfl rfl ?_
    refine OKS.ra rfl rfl rfl rfl rfl rfl ?_
    refine OKS.e ?_
    refine thenQ_n ?_
    refine CK.ret ?_
    refine thenQ_r ?_
    cases hm97
    exact ⟨rfl, _, (res2 rfl rfl), φ81, _, (hS91.pick [0] _ (by decide) rfl), A87, c88, rfl, rfl⟩
  ·have hm98 := hm36; rw [if_neg c49] at hm98; replace c49 := Hid.mk c49
   refine CK.condT (decT c49.out) ?_
   refine CK.seq ?_
   refine CK.reg (ks := []) (.fl 0 (.fl 1 (.fl 2 (.nil)))) rfl ?_
   refine OKS.rm rfl rfl rfl rfl rfl rfl ?_
   refine OKS.ra rfl rfl rfl rfl rfl rfl ?_
   refine OKS.ra rfl rfl rfl rfl rfl rfl ?_
   refine OKS.e ?_
   refine thenQ_n ?_
   refine CK.ret ?_
   refine thenQ_r ?_
   cases hm98
   exact ⟨rfl, _, (res2 rfl rfl), φ37, _, hS47, A43, c44, rfl, rfl⟩
 ·have hm99 := hm3; rw [if_neg c11] at hm99; replace c11 := Hid.mk c11
  refine CK.condT (decT c11.out) ?_
  refine CK.seq ?_
  refine CK.reg (ks := []) (.fl 0 (.fl 1 (.fl 2 (.nil)))) rfl ?_
  refine OKS.rm rfl rfl rfl rfl rfl rfl ?_
  refine OKS.ra rfl rfl rfl rfl rfl rfl ?_
  refine OKS.ra rfl rfl rfl rfl rfl rfl ?_
  refine OKS.e ?_
  refine thenQ_n ?_
  refine CK.ret ?_
  refine thenQ_r ?_
  have hS100 := hS10.nilrow 35 2
  cases hm99
  exact ⟨rfl, _, (res2 rfl rfl), φ4, _, hS100, none, 0, rfl, rfl⟩

set_option maxHeartbeats 4000000 in
theorem w_klisterlaw03_span (p0 : Int) (p1 : Int) (w : World) (φ : PHeap) (hS : St ⟨w, [], φ⟩ φ [] w)  {r : T_api_Span} (hm : m_klisterlaw03_span p0 p1 = some r) : Gv Try.prog 23 [.int .i64 p0, .int .i64 p1] w (RetS w [] φ (fun φ_ L_ v => v = .agg #[.int .i64 r.Lo, .int .i64 r.Hi] ∧ L_ = [])) := by
 unfold m_klisterlaw03_span at hm
 refine Gv.of Try.func23 rfl Try.ntmps23 Try.results23 rfl ?_
 refine CK.seq ?_
 refine CK.reg (ks := []) (.fx 0 (.nil) .stop) rfl ?_
 refine OKS.alloc (cs := [.int .i64 0, .int .i64 0]) rfl rfl rfl rfl rfl Try.zeroValue29 rfl hS ?_
 intro W1 b2 hS3
 refine OKS.e ?_
 refine thenQ_n ?_
 refine CK.seq ?_
 refine CK.reg (ks := []) (.fl 0 (.fl 1 (.fl 2 (.fx 3 (.nil) .stop)))) rfl ?_
 refine OKS.rm rfl rfl rfl rfl rfl rfl ?_
 refine OKS.rm rfl rfl rfl rfl rfl rfl ?_
 refine OKS.r rfl rfl rfl rfl (fun _ => Runs.build (pv := [(0, .int .i64 p0), (1, .int .i64 p1)]) (z := [.int .i64 0, .int .i64 0]) (cs := [.int .i64 p0, .int .i64 p1]) rfl (mapcons2 rfl (mapcons2 rfl mapnil2)) Try.zeroValue29 places29 rfl rfl) ?_
 refine OKS.st (j := 0) (vs := [.int .i64 p0, .int .i64 p1]) rfl rfl rfl rfl hS3 rfl rfl rfl rfl Try.sizeOf29 (Nat.le_of_ble_eq_true rfl) rfl rfl rfl ?_
 intro W5 hS6
 have hS7 : St ⟨w, [], φ⟩ φ [.blk b2 29 [.int .i64 p0, .int .i64 p1]] W5 := hS6
 refine OKS.e ?_
 refine thenQ_n ?_
 refine CK.ret ?_
 cases hm
 exact ⟨rfl, _, (resL1 (v := .agg #[.int .i64 p0, .int .i64 p1]) ⟨⟨_, rfl, (ldvarA Try.isAgg29 Try.sizeOf29 (hS7.blkAt (k := 0) rfl) (vs := [.int .i64 p0, .int .i64 p1]) rfl rfl)⟩, trivial⟩), φ, _, (hS7.pick [] _ (by decide) rfl), rfl, rfl⟩

set_option maxHeartbeats 4000000 in
theorem w_target_Due (p0 : List (List Int)) (pA0 : Option Addr) (pc0 : Nat) (p1 : List (List T_target_Sheet)) (pA1 : Option Addr) (pc1 : Nat) (w : World) (φ : PHeap) (hS : St ⟨w, [], φ⟩ φ [] w) (ha0 : SlR φ rl22 pA0 pc0 p0) (ha1 : SlR φ rl23 pA1 pc1 p1) {r : (List Int) × Int} (hm : m_target_Due p0 p1 = some r) : Gv Try.prog 22 [.slice pA0 p0.length pc0, .slice pA1 p1.length pc1] w (RetS w [] φ (fun φ_ L_ v => ∃ (A0 : Option Addr) (c0 : Nat), v = .tuple #[.slice A0 r.1.length c0, .int .i64 r.2] ∧ L_ = [.row A0 c0 3 1 (List.flatMap encI r.1)])) := by
 unfold m_target_Due at hm
 refine Gv.of Try.func22 rfl Try.ntmps22 Try.results22 rfl ?_
 refine CK.seq ?_
 refine CK.reg (ks := []) (.fl 0 (.fl 1 (.nil))) rfl ?_
 refine OKS.ra rfl rfl rfl rfl rfl rfl ?_
 refine OKS.ra rfl rfl rfl rfl rfl rfl ?_
 refine OKS.e ?_
 refine thenQ_n ?_
 refine CK.seq ?_
 refine CK.seq ?_
 refine CK.reg (ks := []) (.fl 0 (.fl 1 (.fl 2 (.fl 3 (.fl 4 (.fl 5 (.fl 6 (.fl 7 (.fl 8 (.fl 9 (.nil))))))))))) rfl ?_
 refine OKS.rm rfl rfl rfl rfl rfl rfl ?_
 refine OKS.r rfl rfl rfl rfl (fun _ => Runs.len rfl rfl Try.runUnderlying49) ?_
 refine OKS.r rfl rfl rfl rfl (fun _ => Runs.gtr rfl rfl rfl) ?_
 refine OKS.rm rfl rfl rfl rfl rfl rfl ?_
 by_cases c1 : 8 < (↑p0.length : Int)
 ·have hm2 := hm; rw [if_pos c1] at hm2; replace c1 := Hid.mk c1
  refine OKS.p rfl rfl rfl (wantedN rfl rfl (decT c1.out) rfl) ?_
  refine OKS.p rfl rfl rfl (wantedN rfl rfl (decT c1.out) rfl) ?_
  refine OKS.p rfl rfl rfl (wantedN rfl rfl (decT c1.out) rfl) ?_
  refine OKS.p rfl rfl rfl (wantedN rfl rfl (decT c1.out) rfl) ?_
  refine OKS.p rfl rfl rfl (wantedN rfl rfl (decT c1.out) rfl) ?_
  refine OKS.r rfl rfl rfl rfl (fun _ => Runs.pickT rfl (decT c1.out) rfl) ?_
  refine OKS.e ?_
  refine thenQ_n ?_
  refine CK.condT rfl ?_
  refine CK.seq ?_
  refine CK.reg (ks := []) (.fl 0 (.fl 1 (.nil))) rfl ?_
  refine OKS.ra rfl rfl rfl rfl rfl rfl ?_
  refine OKS.ra rfl rfl rfl rfl rfl rfl ?_
  refine OKS.e ?_
  refine thenQ_n ?_
  refine CK.ret ?_
  refine thenQ_r ?_
  have hS3 := hS.nilrow 3 1
  cases hm2
  exact ⟨rfl, _, (res2 rfl rfl), φ, _, hS3, none, 0, rfl, rfl⟩
 ·have hm5 := hm; rw [if_neg c1] at hm5; replace c1 := Hid.mk c1
  refine OKS.rm rfl rfl rfl (wantedY rfl rfl (decF c1.out)) rfl rfl ?_
  refine OKS.r rfl rfl rfl (wantedY rfl rfl (decF c1.out)) (fun _ => Runs.len rfl rfl Try.runUnderlying54) ?_
  refine OKS.rm rfl rfl rfl (wantedY rfl rfl (decF c1.out)) rfl rfl ?_
  refine OKS.r rfl rfl rfl (wantedY rfl rfl (decF c1.out)) (fun _ => Runs.len rfl rfl Try.runUnderlying49) ?_
  refine OKS.r rfl rfl rfl (wantedY rfl rfl (decF c1.out)) (fun _ => Runs.neq rfl rfl rfl) ?_
  refine OKS.r rfl rfl rfl rfl (fun _ => Runs.pickF rfl (decF c1.out) rfl) ?_
  refine OKS.e ?_
  refine thenQ_n ?_
  by_cases c6 : (↑p1.length : Int) = (↑p0.length : Int)
  ·have hm7 := hm5; rw [if_pos c6] at hm7; replace c6 := Hid.mk c6
   refine CK.condF (decF (fun h => h c6.out)) ?_
   refine CK.skip ?_
   refine thenQ_n ?_
   refine CK.seq ?_
   refine CK.reg (ks := []) (.fl 0 (.nil)) rfl ?_
   refine OKS.ra rfl rfl rfl rfl rfl rfl ?_
   refine OKS.e ?_
   refine thenQ_n ?_
   refine CK.seq ?_
   refine CK.seq ?_
   refine CK.reg (ks := []) (.fl 0 (.fl 1 (.fl 2 (.nil)))) rfl ?_
   refine OKS.rm rfl rfl rfl rfl rfl rfl ?_
   refine OKS.r rfl rfl rfl rfl (fun _ => Runs.len rfl rfl Try.runUnderlying49) ?_
   refine OKS.rm rfl rfl rfl rfl rfl rfl ?_
   refine OKS.e ?_
   refine thenQ_n ?_
   refine CK.block ?_
   have q := jn_some hm7
   obtain ⟨r26, hX27⟩ := q
   have q := forR_le hX27
   obtain ⟨hle28, hf29⟩ := q
   replace hle28 := Hid.mk hle28
   refine CK.forN (fun k25 l21 σ_ w_ => ∃ (φ_ : PHeap) (A22 : Option Addr) (c23 : Nat), σ_ 22 = .int .i64 (↑k25 : Int) ∧ σ_ 0 = .slice pA0 p0.length pc0 ∧ σ_ 1 = .slice pA1 p1.length pc1 ∧ σ_ 6 = .slice A22 l21.length c23 ∧ σ_ 21 = .int .i64 (↑p0.length : Int) ∧ PHeap.Le φ φ_ ∧ St ⟨w, [], φ⟩ φ_ [.row A22 c23 3 1 (List.flatMap encI l21)] w_) hf29 ?_ ?_ ?_
   ·have hS30 := hS.nilrow 3 1
    exact ⟨φ, none, 0, rfl, rfl, rfl, rfl, rfl, (PHeap.Le.refl _), hS30⟩
   ·rintro k25 l21 xx34 σ32 W33 hk37 ⟨φ39, A22, c23, fi38, f42, f43, f44, f45, le40, hS41⟩ hx35 hb36
    have c46 : Hid ((↑k25 : Int) < (↑p0.length : Int)) := Hid.mk (lp_lt0 hk37)
    replace hk37 := Hid.mk hk37
    have hi47 : Hid (w64 ((↑k25 : Int) + 1) = (↑(k25 + 1) : Int)) := Hid.mk (by have h1 := hle28.out; have h2 := c46.out; rw [w64_in] <;> omega)
    refine CK.seq ?_
    refine CK.reg (ks := []) (.fl 0 (.nil)) rfl ?_
    refine OKS.r rfl rfl rfl rfl (fun _ => Runs.lss rfl fi38 f45) ?_
    refine OKS.e ?_
    refine thenQ_n ?_
    refine CK.seq ?_
    refine CK.condT (decT c46.out) ?_
    refine CK.skip ?_
    refine thenQ_n ?_
    refine CK.seq ?_
    refine CK.block ?_
    refine CK.seq ?_
    refine CK.reg (ks := []) (.fl 0 (.fl 1 (.nil))) rfl ?_
    refine OKS.rm rfl rfl rfl rfl rfl fi38 ?_
    refine OKS.ra rfl rfl rfl rfl rfl rfl ?_
    refine OKS.e ?_
    refine thenQ_n ?_
    refine CK.seq ?_
    refine CK.anyOrd Try.mixed [3, 3, 3, 1, 3, 3, 3, 1, 2, 3, 3, 3, 3, 3] (.fl 0 (.fl 1 (.fl 2 (.fl 3 (.fl 4 (.fl 5 (.fl 6 (.fl 7 (.fx 8 (.fl 9 (.fl 10 (.fl 11 (.fl 12 (.fl 13 (.nil)))))) .stop))))))))) (by kernel_rfl) ?_
    have hS48 := hS41.drew
    generalize hw_W49 : ({ W33 with drawn := W33.drawn + 1 } : World) = W49 at hS48 ⊢
    refine OKS.rm rfl rfl rfl rfl rfl f42 ?_
    refine OKS.rm rfl rfl rfl rfl rfl rfl ?_
    have q := bnd hx35
    obtain ⟨x50, h51, hm52⟩ := q
    have h53 := ha0.le le40
    have q := h53.el (idx_get h51)
    obtain ⟨b54, off55, vs58, hA56, hC57, hr59⟩ := q
    obtain ⟨pA60, pc61, rfl, h62⟩ := hr59
    replace hC57 : Cl φ39 b54 (off55 + k25 * 1) [.slice pA60 x50.length pc61] := hC57
    refine OKS.r rfl rfl rfl rfl (fun _ => Runs.iaN rfl rfl hA56 rfl Try.runUnderlying49 Try.sizeOf22 (idx_lt h51)) ?_
    refine OKS.m rfl rfl rfl rfl (hS48.ldC (f := 0) hC57 (v := .slice pA60 x50.length pc61) rfl rfl Try.isAgg22 rfl) rfl ?_
    refine OKS.rm rfl rfl rfl rfl rfl f43 ?_
    refine OKS.rm rfl rfl rfl rfl rfl rfl ?_
    have q := bnd hm52
    obtain ⟨x63, h64, hm65⟩ := q
    have h66 := ha1.le le40
    have q := h66.el (idx_get h64)
    obtain ⟨b67, off68, vs71, hA69, hC70, hr72⟩ := q
    obtain ⟨pA73, pc74, rfl, h75⟩ := hr72
    replace hC70 : Cl φ39 b67 (off68 + k25 * 1) [.slice pA73 x63.length pc74] := hC70
    refine OKS.r rfl rfl rfl rfl (fun _ => Runs.iaN rfl rfl hA69 rfl Try.runUnderlying54 Try.sizeOf23 (idx_lt h64)) ?_
    refine OKS.m rfl rfl rfl rfl (hS48.ldC (f := 0) hC70 (v := .slice pA73 x63.length pc74) rfl rfl Try.isAgg23 rfl) rfl ?_
    have q := bnd hm65
    obtain ⟨⟨x76, x77⟩, h78, hm79⟩ := q
    try dsimp only at hm79
    refine OKS.callH 0 rfl rfl rfl rfl (Enters.mk rfl rfl Try.call15 (mapcons rfl (mapcons rfl mapnil)) rfl) hS48 (fun hs => w_target_Few x50 pA60 pc61 x63 pA73 pc74 W49 φ39 hs h62 h75 h78) (.inr rfl) ?_
    rintro φ80 L81 v82 W83 le84 hS85 ⟨rfl, rfl⟩
    have hS86 : St ⟨w, [], φ⟩ φ80 [.row A22 c23 3 1 (List.flatMap encI l21)] W83 := hS85
    refine OKS.rm rfl rfl rfl rfl rfl rfl ?_
    refine OKS.r rfl rfl rfl rfl (fun _ => Runs.ext rfl rfl (v := .bool x76) rfl) ?_
    refine OKS.r rfl rfl rfl rfl (fun _ => Runs.ext rfl rfl (v := .int .i64 x77) rfl) ?_
    refine OKS.ra rfl rfl rfl rfl rfl rfl ?_
    refine OKS.ra rfl rfl rfl rfl rfl rfl ?_
    refine OKS.e ?_
    refine thenQ_n ?_
    refine CK.seq ?_
    refine CK.seq ?_
    refine CK.reg (ks := []) (.fl 0 (.fl 1 (.nil))) rfl ?_
    refine OKS.rm rfl rfl rfl rfl rfl rfl ?_
    refine OKS.r rfl rfl rfl rfl (fun _ => Runs.neq rfl rfl rfl) ?_
    refine OKS.e ?_
    refine thenQ_n ?_
    by_cases c87 : x77 = 0
    ·have hm88 := hm79; rw [if_pos c87] at hm88; replace c87 := Hid.mk c87
     refine CK.condF (decF (fun h => h c87.out)) ?_
     refine CK.skip ?_
     refine thenQ_n ?_
     refine CK.seq ?_
     refine CK.reg (ks := []) (.fl 0 (.nil)) rfl ?_
     refine OKS.rm rfl rfl rfl rfl rfl rfl ?_
     refine OKS.e ?_
     refine thenQ_n ?_
     by_cases c89 : x76 = true
     ·have hm90 := hm88; rw [if_pos c89] at hm90; replace c89 := Hid.mk c89
      refine CK.condT (congrArg Value.bool c89.out) ?_
      refine CK.reg (ks := []) (.fl 0 (.fl 1 (.fx 2 (.fx 3 (.fl 4 (.nil)) .stop) .stop))) rfl ?_
      refine OKS.rm rfl rfl rfl rfl rfl f44 ?_
      refine OKS.rm rfl rfl rfl rfl rfl rfl ?_
      refine OKS.buildSlice (pv := [(0, .int .i64 (↑k25 : Int))]) (zs := [.int .i64 0]) (cs := [.int .i64 (↑k25 : Int)]) rfl rfl rfl rfl rfl (mapcons2 rfl mapnil2) Try.runUnderlying22 Try.sizeOf3 Try.zeroValue3 rfl rfl rfl rfl rfl hS86 ?_
      intro W91 b92 hS93
      have hS95 : St ⟨w, [], φ⟩ φ80 [.row (some ⟨b92, 0, none⟩) 1 3 1 (List.flatMap encI [(↑k25 : Int)]), .row A22 c23 3 1 (List.flatMap encI l21)] W91 := hS93
      have q := bnd hm90
      obtain ⟨x96, h97, hm98⟩ := q
      refine OKS.append (j := 1) (enc := encI) (xs := l21) (ys := [(↑k25 : Int)]) (zs := x96) rfl rfl rfl rfl rfl Try.underlying22 info3 rfl rfl rfl rfl rfl rfl hS95 rfl rfl rfl (hS95.srcR (j := 0) rfl (by decide) (flatMap_len (f := encI) (sz := 1) (fun _ => rfl) [(↑k25 : Int)])) (fun _ => rfl) (fun _ => rfl) h97 rfl ?_
      intro A99 c100 W101 hS102
      have hS103 : St ⟨w, [], φ⟩ φ80 [.row (some ⟨b92, 0, none⟩) 1 3 1 (List.flatMap encI [(↑k25 : Int)]), .row A99 c100 3 1 (List.flatMap encI x96)] W101 := hS102
      refine OKS.ra rfl rfl rfl rfl rfl rfl ?_
      refine OKS.e ?_
      refine blockQ_n ?_
      refine thenQ_n ?_
      refine CK.reg (ks := []) (.fl 0 (.fl 1 (.nil))) rfl ?_
      refine OKS.r rfl rfl rfl rfl (fun _ => Runs.to (Runs.addw rfl fi38 rfl) (congrArg (Value.int .i64) hi47.out)) ?_
      refine OKS.rm rfl rfl rfl rfl rfl rfl ?_
      refine OKS.e ?_
      obtain rfl := Option.some.inj hm98
      exact thenQ_n ⟨rfl, _, rfl, ⟨φ80, A99, c100, rfl, f42, f43, rfl, f45, (le40.trans le84), (hS103.pick [1] _ (by decide) rfl)⟩⟩
     ·have hm107 := hm88; rw [if_neg c89] at hm107; replace c89 := Hid.mk c89
      refine CK.condF (congrArg Value.bool (Bool.eq_false_iff.2 c89.out)) ?_
      refine CK.skip ?_
      refine blockQ_n ?_
      refine thenQ_n ?_
      refine CK.reg (ks := []) (.fl 0 (.fl 1 (.nil))) rfl ?_
      refine OKS.r rfl rfl rfl rfl (fun _ => Runs.to (Runs.addw rfl fi38 rfl) (congrArg (Value.int .i64) hi47.out)) ?_
      refine OKS.rm rfl rfl rfl rfl rfl rfl ?_
      refine OKS.e ?_
      obtain rfl := Option.some.inj hm107
      exact thenQ_n ⟨rfl, _, rfl, ⟨φ80, A22, c23, rfl, f42, f43, f44, f45, (le40.trans le84), hS86⟩⟩
    ·have hm111 := hm79; rw [if_neg c87] at hm111; replace c87 := Hid.mk c87
     refine CK.condT (decT c87.out) ?_
     refine CK.seq ?_
     refine CK.reg (ks := []) (.fl 0 (.fl 1 (.fl 2 (.nil)))) rfl ?_
     refine OKS.rm rfl rfl rfl rfl rfl rfl ?_
     refine OKS.ra rfl rfl rfl rfl rfl rfl ?_
     refine OKS.ra rfl rfl rfl rfl rfl rfl ?_
     refine OKS.e ?_
     refine thenQ_n ?_
     refine CK.ret ?_
     refine thenQ_r ?_
     refine blockQ_r ?_
     refine thenQ_r ?_
     have q := esc_spec hm111
     obtain ⟨v112, hm113, e114⟩ := q
     obtain rfl := jn_inr hm7 hX27 (hb36 v112 e114)
     refine thenQ_r ?_
     refine blockQ_r ?_
     refine thenQ_r ?_
     have hS115 := hS86.nilrow 3 1
     cases hm113
     exact ⟨rfl, _, (res2 rfl rfl), φ80, _, (hS115.pick [0] _ (by decide) rfl), none, 0, rfl, rfl⟩
   ·rintro y121 σ117 W118 ⟨φ124, A122, c123, fi120, f127, f128, f129, f130, le125, hS126⟩ hb119
    have hm131 := jn_inl hm7 hX27 hb119
    have c132 : Hid (¬ ((↑(((↑p0.length : Int) : Int) - 0).toNat : Int) < (↑p0.length : Int))) := Hid.mk (lp_end0)
    refine CK.seq ?_
    refine CK.reg (ks := []) (.fl 0 (.nil)) rfl ?_
    refine OKS.r rfl rfl rfl rfl (fun _ => Runs.lss rfl fi120 f130) ?_
    refine OKS.e ?_
    refine thenQ_n ?_
    refine CK.seq ?_
    refine CK.condF (decF c132.out) ?_
    refine CK.exit ?_
    refine thenQ_e ?_
    refine thenQ_e ?_
    refine blockQ_h ?_
    refine thenQ_n ?_
    refine CK.seq ?_
    refine CK.reg (ks := []) (.fl 0 (.fl 1 (.fl 2 (.nil)))) rfl ?_
    refine OKS.rm rfl rfl rfl rfl rfl f129 ?_
    refine OKS.ra rfl rfl rfl rfl rfl rfl ?_
    refine OKS.ra rfl rfl rfl rfl rfl rfl ?_
    refine OKS.e ?_
    refine thenQ_n ?_
    refine CK.ret ?_
    cases hm131
    exact ⟨rfl, _, (res2 rfl rfl), φ124, _, hS126, A122, c123, rfl, rfl⟩
  ·have hm133 := hm5; rw [if_neg c6] at hm133; replace c6 := Hid.mk c6
   refine CK.condT (decT c6.out) ?_
   refine CK.seq ?_
   refine CK.reg (ks := []) (.fl 0 (.fl 1 (.nil))) rfl ?_
   refine OKS.ra rfl rfl rfl rfl rfl rfl ?_
   refine OKS.ra rfl rfl rfl rfl rfl rfl ?_
   refine OKS.e ?_
   refine thenQ_n ?_
   refine CK.ret ?_
   refine thenQ_r ?_
   have hS134 := hS.nilrow 3 1
   cases hm133
   exact ⟨rfl, _, (res2 rfl rfl), φ, _, hS134, none, 0, rfl, rfl⟩

set_option maxHeartbeats 4000000 in
theorem w_klisterkit_Equal_int (p0 : List Int) (pA0 : Option Addr) (pc0 : Nat) (p1 : List Int) (pA1 : Option Addr) (pc1 : Nat) (w : World) (φ : PHeap) (hS : St ⟨w, [], φ⟩ φ [] w) (ha0 : Sl φ 1 pA0 pc0 p0.length (List.flatMap encI p0)) (ha1 : Sl φ 1 pA1 pc1 p1.length (List.flatMap encI p1)) {r : Bool} (hm : m_klisterkit_Equal_int p0 p1 = some r) : Gv Try.prog 24 [.slice pA0 p0.length pc0, .slice pA1 p1.length pc1] w (RetS w [] φ (fun φ_ L_ v => v = .bool r ∧ L_ = [])) := by
 unfold m_klisterkit_Equal_int at hm
 refine Gv.of Try.func24 rfl Try.ntmps24 Try.results24 rfl ?_
 refine CK.seq ?_
 refine CK.reg (ks := []) (.fl 0 (.nil)) rfl ?_
 refine OKS.ra rfl rfl rfl rfl rfl rfl ?_
 refine OKS.e ?_
 refine thenQ_n ?_
 refine CK.seq ?_
 refine CK.seq ?_
 refine CK.reg (ks := []) (.fl 0 (.fl 1 (.fl 2 (.fl 3 (.fl 4 (.nil)))))) rfl ?_
 refine OKS.rm rfl rfl rfl rfl rfl rfl ?_
 refine OKS.r rfl rfl rfl rfl (fun _ => Runs.len rfl rfl Try.runUnderlying22) ?_
 refine OKS.rm rfl rfl rfl rfl rfl rfl ?_
 refine OKS.r rfl rfl rfl rfl (fun _ => Runs.len rfl rfl Try.runUnderlying22) ?_
 refine OKS.r rfl rfl rfl rfl (fun _ => Runs.neq rfl rfl rfl) ?_
 refine OKS.e ?_
 refine thenQ_n ?_
 by_cases c1 : (↑p0.length : Int) = (↑p1.length : Int)
 ·have hm2 := hm; rw [if_pos c1] at hm2; replace c1 := Hid.mk c1
  refine CK.condF (decF (fun h => h c1.out)) ?_
  refine CK.skip ?_
  refine thenQ_n ?_
  refine CK.seq ?_
  refine CK.seq ?_
  refine CK.reg (ks := []) (.fl 0 (.fl 1 (.fl 2 (.nil)))) rfl ?_
  refine OKS.rm rfl rfl rfl rfl rfl rfl ?_
  refine OKS.r rfl rfl rfl rfl (fun _ => Runs.len rfl rfl Try.runUnderlying22) ?_
  refine OKS.rm rfl rfl rfl rfl rfl rfl ?_
  refine OKS.e ?_
  refine thenQ_n ?_
  refine CK.block ?_
  have q := jn_some hm2
  obtain ⟨r5, hX6⟩ := q
  have q := forR_le hX6
  obtain ⟨hle7, hf8⟩ := q
  replace hle7 := Hid.mk hle7
  refine CK.forN (fun k4 _ σ_ w_ => ∃ (φ_ : PHeap), σ_ 13 = .int .i64 (↑k4 : Int) ∧ σ_ 0 = .slice pA0 p0.length pc0 ∧ σ_ 1 = .slice pA1 p1.length pc1 ∧ σ_ 12 = .int .i64 (↑p0.length : Int) ∧ PHeap.Le φ φ_ ∧ St ⟨w, [], φ⟩ φ_ [] w_) hf8 ?_ ?_ ?_
  ·exact ⟨φ, rfl, rfl, rfl, rfl, (PHeap.Le.refl _), hS⟩
  ·rintro k4 ⟨⟩ xx11 σ9 W10 hk14 ⟨φ16, fi15, f19, f20, f21, le17, hS18⟩ hx12 hb13
   try dsimp only at hx12
   have c22 : Hid ((↑k4 : Int) < (↑p0.length : Int)) := Hid.mk (lp_lt0 hk14)
   replace hk14 := Hid.mk hk14
   have hi23 : Hid (w64 ((↑k4 : Int) + 1) = (↑(k4 + 1) : Int)) := Hid.mk (by have h1 := hle7.out; have h2 := c22.out; rw [w64_in] <;> omega)
   refine CK.seq ?_
   refine CK.reg (ks := []) (.fl 0 (.nil)) rfl ?_
   refine OKS.r rfl rfl rfl rfl (fun _ => Runs.lss rfl fi15 f21) ?_
   refine OKS.e ?_
   refine thenQ_n ?_
   refine CK.seq ?_
   refine CK.condT (decT c22.out) ?_
   refine CK.skip ?_
   refine thenQ_n ?_
   refine CK.seq ?_
   refine CK.block ?_
   refine CK.seq ?_
   refine CK.reg (ks := []) (.fl 0 (.fl 1 (.nil))) rfl ?_
   refine OKS.rm rfl rfl rfl rfl rfl fi15 ?_
   refine OKS.ra rfl rfl rfl rfl rfl rfl ?_
   refine OKS.e ?_
   refine thenQ_n ?_
   refine CK.seq ?_
   refine CK.anyOrd Try.mixed [3, 3, 3, 1, 3, 3, 3, 1, 3] (.fl 0 (.fl 1 (.fl 2 (.fl 3 (.fl 4 (.fl 5 (.fl 6 (.fl 7 (.fl 8 (.nil)))))))))) (by kernel_rfl) ?_
   have hS24 := hS18.drew
   generalize hw_W25 : ({ W10 with drawn := W10.drawn + 1 } : World) = W25 at hS24 ⊢
   refine OKS.rm rfl rfl rfl rfl rfl f19 ?_
   refine OKS.rm rfl rfl rfl rfl rfl rfl ?_
   have q := bnd hx12
   obtain ⟨x26, h27, hm28⟩ := q
   have h29 := ha0.le le17
   have q := h29.el (fun _ => rfl) (idx_get h27)
   obtain ⟨b30, off31, hA32, hC33⟩ := q
   refine OKS.r rfl rfl rfl rfl (fun _ => Runs.iaN rfl rfl hA32 rfl Try.runUnderlying22 Try.sizeOf3 (idx_lt h27)) ?_
   refine OKS.m rfl rfl rfl rfl (hS24.ldC (f := 0) hC33 (v := .int .i64 x26) rfl rfl Try.isAgg3 rfl) rfl ?_
   refine OKS.rm rfl rfl rfl rfl rfl f20 ?_
   refine OKS.rm rfl rfl rfl rfl rfl rfl ?_
   have q := bnd hm28
   obtain ⟨x34, h35, hm36⟩ := q
   have h37 := ha1.le le17
   have q := h37.el (fun _ => rfl) (idx_get h35)
   obtain ⟨b38, off39, hA40, hC41⟩ := q
   refine OKS.r rfl rfl rfl rfl (fun _ => Runs.iaN rfl rfl hA40 rfl Try.runUnderlying22 Try.sizeOf3 (idx_lt h35)) ?_
   refine OKS.m rfl rfl rfl rfl (hS24.ldC (f := 0) hC41 (v := .int .i64 x34) rfl rfl Try.isAgg3 rfl) rfl ?_
   refine OKS.r rfl rfl rfl rfl (fun _ => Runs.neq rfl rfl rfl) ?_
   refine OKS.e ?_
   refine thenQ_n ?_
   by_cases c42 : x26 = x34
   ·have hm43 := hm36; rw [if_pos c42] at hm43; replace c42 := Hid.mk c42
    refine CK.condF (decF (fun h => h c42.out)) ?_
    refine CK.skip ?_
    refine blockQ_n ?_
    refine thenQ_n ?_
    refine CK.reg (ks := []) (.fl 0 (.fl 1 (.nil))) rfl ?_
    refine OKS.r rfl rfl rfl rfl (fun _ => Runs.to (Runs.addw rfl fi15 rfl) (congrArg (Value.int .i64) hi23.out)) ?_
    refine OKS.rm rfl rfl rfl rfl rfl rfl ?_
    refine OKS.e ?_
    obtain rfl := Option.some.inj hm43
    exact thenQ_n ⟨rfl, _, rfl, ⟨φ16, rfl, f19, f20, f21, le17, hS24⟩⟩
   ·have hm44 := hm36; rw [if_neg c42] at hm44; replace c42 := Hid.mk c42
    refine CK.condT (decT c42.out) ?_
    refine CK.seq ?_
    refine CK.reg (ks := []) (.fl 0 (.nil)) rfl ?_
    refine OKS.ra rfl rfl rfl rfl rfl rfl ?_
    refine OKS.e ?_
    refine thenQ_n ?_
    refine CK.ret ?_
    refine blockQ_r ?_
    refine thenQ_r ?_
    have q := esc_spec hm44
    obtain ⟨v45, hm46, e47⟩ := q
    obtain rfl := jn_inr hm2 hX6 (hb13 v45 e47)
    refine thenQ_r ?_
    refine blockQ_r ?_
    refine thenQ_r ?_
    cases hm46
    exact ⟨rfl, _, (res1 rfl), φ16, _, hS24, rfl, rfl⟩
  ·rintro ⟨⟩ σ48 W49 ⟨φ52, fi51, f55, f56, f57, le53, hS54⟩ hb50
   have hm58 := jn_inl hm2 hX6 hb50
   try dsimp only at hm58
   have c59 : Hid (¬ ((↑(((↑p0.length : Int) : Int) - 0).toNat : Int) < (↑p0.length : Int))) := Hid.mk (lp_end0)
   refine CK.seq ?_
   refine CK.reg (ks := []) (.fl 0 (.nil)) rfl ?_
   refine OKS.r rfl rfl rfl rfl (fun _ => Runs.lss rfl fi51 f57) ?_
   refine OKS.e ?_
   refine thenQ_n ?_
   refine CK.seq ?_
   refine CK.condF (decF c59.out) ?_
   refine CK.exit ?_
   refine thenQ_e ?_
   refine thenQ_e ?_
   refine blockQ_h ?_
   refine thenQ_n ?_
   refine CK.seq ?_
   refine CK.reg (ks := []) (.fl 0 (.nil)) rfl ?_
   refine OKS.ra rfl rfl rfl rfl rfl rfl ?_
   refine OKS.e ?_
   refine thenQ_n ?_
   refine CK.ret ?_
   cases hm58
   exact ⟨rfl, _, (res1 rfl), φ52, _, hS54, rfl, rfl⟩
 ·have hm60 := hm; rw [if_neg c1] at hm60; replace c1 := Hid.mk c1
  refine CK.condT (decT c1.out) ?_
  refine CK.seq ?_
  refine CK.reg (ks := []) (.fl 0 (.nil)) rfl ?_
  refine OKS.ra rfl rfl rfl rfl rfl rfl ?_
  refine OKS.e ?_
  refine thenQ_n ?_
  refine CK.ret ?_
  refine thenQ_r ?_
  cases hm60
  exact ⟨rfl, _, (res1 rfl), φ, _, hS, rfl, rfl⟩

set_option maxHeartbeats 4000000 in
theorem w_klisterkit_Equal_target_Sheet (p0 : List T_target_Sheet) (pA0 : Option Addr) (pc0 : Nat) (p1 : List T_target_Sheet) (pA1 : Option Addr) (pc1 : Nat) (w : World) (φ : PHeap) (hS : St ⟨w, [], φ⟩ φ [] w) (ha0 : Sl φ 4 pA0 pc0 p0.length (List.flatMap encT_target_Sheet p0)) (ha1 : Sl φ 4 pA1 pc1 p1.length (List.flatMap encT_target_Sheet p1)) {r : Bool} (hm : m_klisterkit_Equal_target_Sheet p0 p1 = some r) : Gv Try.prog 25 [.slice pA0 p0.length pc0, .slice pA1 p1.length pc1] w (RetS w [] φ (fun φ_ L_ v => v = .bool r ∧ L_ = [])) := by
 unfold m_klisterkit_Equal_target_Sheet at hm
 refine Gv.of Try.func25 rfl Try.ntmps25 Try.results25 rfl ?_
 refine CK.seq ?_
 refine CK.reg (ks := []) (.fl 0 (.nil)) rfl ?_
 refine OKS.ra rfl rfl rfl rfl rfl rfl ?_
 refine OKS.e ?_
 refine thenQ_n ?_
 refine CK.seq ?_
 refine CK.seq ?_
 refine CK.reg (ks := []) (.fl 0 (.fl 1 (.fl 2 (.fl 3 (.fl 4 (.nil)))))) rfl ?_
 refine OKS.rm rfl rfl rfl rfl rfl rfl ?_
 refine OKS.r rfl rfl rfl rfl (fun _ => Runs.len rfl rfl Try.runUnderlying23) ?_
 refine OKS.rm rfl rfl rfl rfl rfl rfl ?_
 refine OKS.r rfl rfl rfl rfl (fun _ => Runs.len rfl rfl Try.runUnderlying23) ?_
 refine OKS.r rfl rfl rfl rfl (fun _ => Runs.neq rfl rfl rfl) ?_
 refine OKS.e ?_
 refine thenQ_n ?_
 by_cases c1 : (↑p0.length : Int) = (↑p1.length : Int)
 ·have hm2 := hm; rw [if_pos c1] at hm2; replace c1 := Hid.mk c1
  refine CK.condF (decF (fun h => h c1.out)) ?_
  refine CK.skip ?_
  refine thenQ_n ?_
  refine CK.seq ?_
  refine CK.seq ?_
  refine CK.reg (ks := []) (.fl 0 (.fl 1 (.fl 2 (.nil)))) rfl ?_
  refine OKS.rm rfl rfl rfl rfl rfl rfl ?_
  refine OKS.r rfl rfl rfl rfl (fun _ => Runs.len rfl rfl Try.runUnderlying23) ?_
  refine OKS.rm rfl rfl rfl rfl rfl rfl ?_
  refine OKS.e ?_
  refine thenQ_n ?_
  refine CK.block ?_
  have q := jn_some hm2
  obtain ⟨r5, hX6⟩ := q
  have q := forR_le hX6
  obtain ⟨hle7, hf8⟩ := q
  replace hle7 := Hid.mk hle7
  refine CK.forN (fun k4 _ σ_ w_ => ∃ (φ_ : PHeap), σ_ 13 = .int .i64 (↑k4 : Int) ∧ σ_ 0 = .slice pA0 p0.length pc0 ∧ σ_ 1 = .slice pA1 p1.length pc1 ∧ σ_ 12 = .int .i64 (↑p0.length : Int) ∧ PHeap.Le φ φ_ ∧ St ⟨w, [], φ⟩ φ_ [] w_) hf8 ?_ ?_ ?_
  ·exact ⟨φ, rfl, rfl, rfl, rfl, (PHeap.Le.refl _), hS⟩
  ·rintro k4 ⟨⟩ xx11 σ9 W10 hk14 ⟨φ16, fi15, f19, f20, f21, le17, hS18⟩ hx12 hb13
   try dsimp only at hx12
   have c22 : Hid ((↑k4 : Int) < (↑p0.length : Int)) := Hid.mk (lp_lt0 hk14)
   replace hk14 := Hid.mk hk14
   have hi23 : Hid (w64 ((↑k4 : Int) + 1) = (↑(k4 + 1) : Int)) := Hid.mk (by have h1 := hle7.out; have h2 := c22.out; rw [w64_in] <;> omega)
   refine CK.seq ?_
   refine CK.reg (ks := []) (.fl 0 (.nil)) rfl ?_
   refine OKS.r rfl rfl rfl rfl (fun _ => Runs.lss rfl fi15 f21) ?_
   refine OKS.e ?_
   refine thenQ_n ?_
   refine CK.seq ?_
   refine CK.condT (decT c22.out) ?_
   refine CK.skip ?_
   refine thenQ_n ?_
   refine CK.seq ?_
   refine CK.block ?_
   refine CK.seq ?_
   refine CK.reg (ks := []) (.fl 0 (.fl 1 (.nil))) rfl ?_
   refine OKS.rm rfl rfl rfl rfl rfl fi15 ?_
   refine OKS.ra rfl rfl rfl rfl rfl rfl ?_
   refine OKS.e ?_
   refine thenQ_n ?_
   refine CK.seq ?_
   refine CK.anyOrd Try.mixed [3, 3, 3, 1, 3, 3, 3, 1, 3] (.fl 0 (.fl 1 (.fl 2 (.fl 3 (.fl 4 (.fl 5 (.fl 6 (.fl 7 (.fl 8 (.nil)))))))))) (by kernel_rfl) ?_
   have hS24 := hS18.drew
   generalize hw_W25 : ({ W10 with drawn := W10.drawn + 1 } : World) = W25 at hS24 ⊢
   refine OKS.rm rfl rfl rfl rfl rfl f19 ?_
   refine OKS.rm rfl rfl rfl rfl rfl rfl ?_
   have q := bnd hx12
   obtain ⟨x26, h27, hm28⟩ := q
   have h29 := ha0.le le17
   have q := h29.el (fun _ => rfl) (idx_get h27)
   obtain ⟨b30, off31, hA32, hC33⟩ := q
   refine OKS.r rfl rfl rfl rfl (fun _ => Runs.iaN rfl rfl hA32 rfl Try.runUnderlying23 Try.sizeOf31 (idx_lt h27)) ?_
   refine OKS.m rfl rfl rfl rfl (hS24.ldCA (f := 0) hC33 rfl rfl Try.isAgg31 Try.sizeOf31 (us := [.int .i64 x26.From, .int .i64 x26.To, .int .i64 x26.Loops.Lo, .int .i64 x26.Loops.Hi]) rfl rfl) rfl ?_
   refine OKS.rm rfl rfl rfl rfl rfl f20 ?_
   refine OKS.rm rfl rfl rfl rfl rfl rfl ?_
   have q := bnd hm28
   obtain ⟨x34, h35, hm36⟩ := q
   have h37 := ha1.le le17
   have q := h37.el (fun _ => rfl) (idx_get h35)
   obtain ⟨b38, off39, hA40, hC41⟩ := q
   refine OKS.r rfl rfl rfl rfl (fun _ => Runs.iaN rfl rfl hA40 rfl Try.runUnderlying23 Try.sizeOf31 (idx_lt h35)) ?_
   refine OKS.m rfl rfl rfl rfl (hS24.ldCA (f := 0) hC41 rfl rfl Try.isAgg31 Try.sizeOf31 (us := [.int .i64 x34.From, .int .i64 x34.To, .int .i64 x34.Loops.Lo, .int .i64 x34.Loops.Hi]) rfl rfl) rfl ?_
   refine OKS.r rfl rfl rfl rfl (fun _ => Runs.to (Runs.neS (enc := encT_target_Sheet) (a := x26) (b := x34) rfl rfl rfl eqT31 eqG31) (congrArg Value.bool (decide_not).symm)) ?_
   refine OKS.e ?_
   refine thenQ_n ?_
   by_cases c42 : x26 = x34
   ·have hm43 := hm36; rw [if_pos c42] at hm43; replace c42 := Hid.mk c42
    refine CK.condF (decF (fun h => h c42.out)) ?_
    refine CK.skip ?_
    refine blockQ_n ?_
    refine thenQ_n ?_
    refine CK.reg (ks := []) (.fl 0 (.fl 1 (.nil))) rfl ?_
    refine OKS.r rfl rfl rfl rfl (fun _ => Runs.to (Runs.addw rfl fi15 rfl) (congrArg (Value.int .i64) hi23.out)) ?_
    refine OKS.rm rfl rfl rfl rfl rfl rfl ?_
    refine OKS.e ?_
    obtain rfl := Option.some.inj hm43
    exact thenQ_n ⟨rfl, _, rfl, ⟨φ16, rfl, f19, f20, f21, le17, hS24⟩⟩
   ·have hm44 := hm36; rw [if_neg c42] at hm44; replace c42 := Hid.mk c42
    refine CK.condT (decT c42.out) ?_
    refine CK.seq ?_
    refine CK.reg (ks := []) (.fl 0 (.nil)) rfl ?_
    refine OKS.ra rfl rfl rfl rfl rfl rfl ?_
    refine OKS.e ?_
    refine thenQ_n ?_
    refine CK.ret ?_
    refine blockQ_r ?_
    refine thenQ_r ?_
    have q := esc_spec hm44
    obtain ⟨v45, hm46, e47⟩ := q
    obtain rfl := jn_inr hm2 hX6 (hb13 v45 e47)
    refine thenQ_r ?_
    refine blockQ_r ?_
    refine thenQ_r ?_
    cases hm46
    exact ⟨rfl, _, (res1 rfl), φ16, _, hS24, rfl, rfl⟩
  ·rintro ⟨⟩ σ48 W49 ⟨φ52, fi51, f55, f56, f57, le53, hS54⟩ hb50
   have hm58 := jn_inl hm2 hX6 hb50
   try dsimp only at hm58
   have c59 : Hid (¬ ((↑(((↑p0.length : Int) : Int) - 0).toNat : Int) < (↑p0.length : Int))) := Hid.mk (lp_end0)
   refine CK.seq ?_
   refine CK.reg (ks := []) (.fl 0 (.nil)) rfl ?_
   refine OKS.r rfl rfl rfl rfl (fun _ => Runs.lss rfl fi51 f57) ?_
   refine OKS.e ?_
   refine thenQ_n ?_
   refine CK.seq ?_
   refine CK.condF (decF c59.out) ?_
   refine CK.exit ?_
   refine thenQ_e ?_
   refine thenQ_e ?_
   refine blockQ_h ?_
   refine thenQ_n ?_
   refine CK.seq ?_
   refine CK.reg (ks := []) (.fl 0 (.nil)) rfl ?_
   refine OKS.ra rfl rfl rfl rfl rfl rfl ?_
   refine OKS.e ?_
   refine thenQ_n ?_
   refine CK.ret ?_
   cases hm58
   exact ⟨rfl, _, (res1 rfl), φ52, _, hS54, rfl, rfl⟩
 ·have hm60 := hm; rw [if_neg c1] at hm60; replace c1 := Hid.mk c1
  refine CK.condT (decT c1.out) ?_
  refine CK.seq ?_
  refine CK.reg (ks := []) (.fl 0 (.nil)) rfl ?_
  refine OKS.ra rfl rfl rfl rfl rfl rfl ?_
  refine OKS.e ?_
  refine thenQ_n ?_
  refine CK.ret ?_
  refine thenQ_r ?_
  cases hm60
  exact ⟨rfl, _, (res1 rfl), φ, _, hS, rfl, rfl⟩

set_option maxHeartbeats 4000000 in
theorem w_klisterkit_Equal_target_Step (p0 : List T_target_Step) (pA0 : Option Addr) (pc0 : Nat) (p1 : List T_target_Step) (pA1 : Option Addr) (pc1 : Nat) (w : World) (φ : PHeap) (hS : St ⟨w, [], φ⟩ φ [] w) (ha0 : Sl φ 2 pA0 pc0 p0.length (List.flatMap encT_target_Step p0)) (ha1 : Sl φ 2 pA1 pc1 p1.length (List.flatMap encT_target_Step p1)) {r : Bool} (hm : m_klisterkit_Equal_target_Step p0 p1 = some r) : Gv Try.prog 26 [.slice pA0 p0.length pc0, .slice pA1 p1.length pc1] w (RetS w [] φ (fun φ_ L_ v => v = .bool r ∧ L_ = [])) := by
 unfold m_klisterkit_Equal_target_Step at hm
 refine Gv.of Try.func26 rfl Try.ntmps26 Try.results26 rfl ?_
 refine CK.seq ?_
 refine CK.reg (ks := []) (.fl 0 (.nil)) rfl ?_
 refine OKS.ra rfl rfl rfl rfl rfl rfl ?_
 refine OKS.e ?_
 refine thenQ_n ?_
 refine CK.seq ?_
 refine CK.seq ?_
 refine CK.reg (ks := []) (.fl 0 (.fl 1 (.fl 2 (.fl 3 (.fl 4 (.nil)))))) rfl ?_
 refine OKS.rm rfl rfl rfl rfl rfl rfl ?_
 refine OKS.r rfl rfl rfl rfl (fun _ => Runs.len rfl rfl Try.runUnderlying24) ?_
 refine OKS.rm rfl rfl rfl rfl rfl rfl ?_
 refine OKS.r rfl rfl rfl rfl (fun _ => Runs.len rfl rfl Try.runUnderlying24) ?_
 refine OKS.r rfl rfl rfl rfl (fun _ => Runs.neq rfl rfl rfl) ?_
 refine OKS.e ?_
 refine thenQ_n ?_
 by_cases c1 : (↑p0.length : Int) = (↑p1.length : Int)
 ·have hm2 := hm; rw [if_pos c1] at hm2; replace c1 := Hid.mk c1
  refine CK.condF (decF (fun h => h c1.out)) ?_
  refine CK.skip ?_
  refine thenQ_n ?_
  refine CK.seq ?_
  refine CK.seq ?_
  refine CK.reg (ks := []) (.fl 0 (.fl 1 (.fl 2 (.nil)))) rfl ?_
  refine OKS.rm rfl rfl rfl rfl rfl rfl ?_
  refine OKS.r rfl rfl rfl rfl (fun _ => Runs.len rfl rfl Try.runUnderlying24) ?_
  refine OKS.rm rfl rfl rfl rfl rfl rfl ?_
  refine OKS.e ?_
  refine thenQ_n ?_
  refine CK.block ?_
  have q := jn_some hm2
  obtain ⟨r5, hX6⟩ := q
  have q := forR_le hX6
  obtain ⟨hle7, hf8⟩ := q
  replace hle7 := Hid.mk hle7
  refine CK.forN (fun k4 _ σ_ w_ => ∃ (φ_ : PHeap), σ_ 13 = .int .i64 (↑k4 : Int) ∧ σ_ 0 = .slice pA0 p0.length pc0 ∧ σ_ 1 = .slice pA1 p1.length pc1 ∧ σ_ 12 = .int .i64 (↑p0.length : Int) ∧ PHeap.Le φ φ_ ∧ St ⟨w, [], φ⟩ φ_ [] w_) hf8 ?_ ?_ ?_
  ·exact ⟨φ, rfl, rfl, rfl, rfl, (PHeap.Le.refl _), hS⟩
  ·rintro k4 ⟨⟩ xx11 σ9 W10 hk14 ⟨φ16, fi15, f19, f20, f21, le17, hS18⟩ hx12 hb13
   try dsimp only at hx12
   have c22 : Hid ((↑k4 : Int) < (↑p0.length : Int)) := Hid.mk (lp_lt0 hk14)
   replace hk14 := Hid.mk hk14
   have hi23 : Hid (w64 ((↑k4 : Int) + 1) = (↑(k4 + 1) : Int)) := Hid.mk (by have h1 := hle7.out; have h2 := c22.out; rw [w64_in] <;> omega)
   refine CK.seq ?_
   refine CK.reg (ks := []) (.fl 0 (.nil)) rfl ?_
   refine OKS.r rfl rfl rfl rfl (fun _ => Runs.lss rfl fi15 f21) ?_
   refine OKS.e ?_
   refine thenQ_n ?_
   refine CK.seq ?_
   refine CK.condT (decT c22.out) ?_
   refine CK.skip ?_
   refine thenQ_n ?_
   refine CK.seq ?_
   refine CK.block ?_
   refine CK.seq ?_
   refine CK.reg (ks := []) (.fl 0 (.fl 1 (.nil))) rfl ?_
   refine OKS.rm rfl rfl rfl rfl rfl fi15 ?_
   refine OKS.ra rfl rfl rfl rfl rfl rfl ?_
   refine OKS.e ?_
   refine thenQ_n ?_
   refine CK.seq ?_
   refine CK.anyOrd Try.mixed [3, 3, 3, 1, 3, 3, 3, 1, 3] (.fl 0 (.fl 1 (.fl 2 (.fl 3 (.fl 4 (.fl 5 (.fl 6 (.fl 7 (.fl 8 (.nil)))))))))) (by kernel_rfl) ?_
   have hS24 := hS18.drew
   generalize hw_W25 : ({ W10 with drawn := W10.drawn + 1 } : World) = W25 at hS24 ⊢
   refine OKS.rm rfl rfl rfl rfl rfl f19 ?_
   refine OKS.rm rfl rfl rfl rfl rfl rfl ?_
   have q := bnd hx12
   obtain ⟨x26, h27, hm28⟩ := q
   have h29 := ha0.le le17
   have q := h29.el (fun _ => rfl) (idx_get h27)
   obtain ⟨b30, off31, hA32, hC33⟩ := q
   refine OKS.r rfl rfl rfl rfl (fun _ => Runs.iaN rfl rfl hA32 rfl Try.runUnderlying24 Try.sizeOf35 (idx_lt h27)) ?_
   refine OKS.m rfl rfl rfl rfl (hS24.ldCA (f := 0) hC33 rfl rfl Try.isAgg35 Try.sizeOf35 (us := [.int .i64 x26.Kind, .int .i64 x26.Index]) rfl rfl) rfl ?_
   refine OKS.rm rfl rfl rfl rfl rfl f20 ?_
   refine OKS.rm rfl rfl rfl rfl rfl rfl ?_
   have q := bnd hm28
   obtain ⟨x34, h35, hm36⟩ := q
   have h37 := ha1.le le17
   have q := h37.el (fun _ => rfl) (idx_get h35)
   obtain ⟨b38, off39, hA40, hC41⟩ := q
   refine OKS.r rfl rfl rfl rfl (fun _ => Runs.iaN rfl rfl hA40 rfl Try.runUnderlying24 Try.sizeOf35 (idx_lt h35)) ?_
   refine OKS.m rfl rfl rfl rfl (hS24.ldCA (f := 0) hC41 rfl rfl Try.isAgg35 Try.sizeOf35 (us := [.int .i64 x34.Kind, .int .i64 x34.Index]) rfl rfl) rfl ?_
   refine OKS.r rfl rfl rfl rfl (fun _ => Runs.to (Runs.neS (enc := encT_target_Step) (a := x26) (b := x34) rfl rfl rfl eqT35 eqG35) (congrArg Value.bool (decide_not).symm)) ?_
   refine OKS.e ?_
   refine thenQ_n ?_
   by_cases c42 : x26 = x34
   ·have hm43 := hm36; rw [if_pos c42] at hm43; replace c42 := Hid.mk c42
    refine CK.condF (decF (fun h => h c42.out)) ?_
    refine CK.skip ?_
    refine blockQ_n ?_
    refine thenQ_n ?_
    refine CK.reg (ks := []) (.fl 0 (.fl 1 (.nil))) rfl ?_
    refine OKS.r rfl rfl rfl rfl (fun _ => Runs.to (Runs.addw rfl fi15 rfl) (congrArg (Value.int .i64) hi23.out)) ?_
    refine OKS.rm rfl rfl rfl rfl rfl rfl ?_
    refine OKS.e ?_
    obtain rfl := Option.some.inj hm43
    exact thenQ_n ⟨rfl, _, rfl, ⟨φ16, rfl, f19, f20, f21, le17, hS24⟩⟩
   ·have hm44 := hm36; rw [if_neg c42] at hm44; replace c42 := Hid.mk c42
    refine CK.condT (decT c42.out) ?_
    refine CK.seq ?_
    refine CK.reg (ks := []) (.fl 0 (.nil)) rfl ?_
    refine OKS.ra rfl rfl rfl rfl rfl rfl ?_
    refine OKS.e ?_
    refine thenQ_n ?_
    refine CK.ret ?_
    refine blockQ_r ?_
    refine thenQ_r ?_
    have q := esc_spec hm44
    obtain ⟨v45, hm46, e47⟩ := q
    obtain rfl := jn_inr hm2 hX6 (hb13 v45 e47)
    refine thenQ_r ?_
    refine blockQ_r ?_
    refine thenQ_r ?_
    cases hm46
    exact ⟨rfl, _, (res1 rfl), φ16, _, hS24, rfl, rfl⟩
  ·rintro ⟨⟩ σ48 W49 ⟨φ52, fi51, f55, f56, f57, le53, hS54⟩ hb50
   have hm58 := jn_inl hm2 hX6 hb50
   try dsimp only at hm58
   have c59 : Hid (¬ ((↑(((↑p0.length : Int) : Int) - 0).toNat : Int) < (↑p0.length : Int))) := Hid.mk (lp_end0)
   refine CK.seq ?_
   refine CK.reg (ks := []) (.fl 0 (.nil)) rfl ?_
   refine OKS.r rfl rfl rfl rfl (fun _ => Runs.lss rfl fi51 f57) ?_
   refine OKS.e ?_
   refine thenQ_n ?_
   refine CK.seq ?_
   refine CK.condF (decF c59.out) ?_
   refine CK.exit ?_
   refine thenQ_e ?_
   refine thenQ_e ?_
   refine blockQ_h ?_
   refine thenQ_n ?_
   refine CK.seq ?_
   refine CK.reg (ks := []) (.fl 0 (.nil)) rfl ?_
   refine OKS.ra rfl rfl rfl rfl rfl rfl ?_
   refine OKS.e ?_
   refine thenQ_n ?_
   refine CK.ret ?_
   cases hm58
   exact ⟨rfl, _, (res1 rfl), φ52, _, hS54, rfl, rfl⟩
 ·have hm60 := hm; rw [if_neg c1] at hm60; replace c1 := Hid.mk c1
  refine CK.condT (decT c1.out) ?_
  refine CK.seq ?_
  refine CK.reg (ks := []) (.fl 0 (.nil)) rfl ?_
  refine OKS.ra rfl rfl rfl rfl rfl rfl ?_
  refine OKS.e ?_
  refine thenQ_n ?_
  refine CK.ret ?_
  refine thenQ_r ?_
  cases hm60
  exact ⟨rfl, _, (res1 rfl), φ, _, hS, rfl, rfl⟩

set_option maxHeartbeats 4000000 in
theorem w_klisterlaw03_TargetDue (p0 : List Int) (pA0 : Option Addr) (pc0 : Nat) (p1 : List T_target_Sheet) (pA1 : Option Addr) (pc1 : Nat) (p2 : List T_target_Step) (pA2 : Option Addr) (pc2 : Nat) (w : World) (φ : PHeap) (hS : St ⟨w, [], φ⟩ φ [] w) (ha0 : Sl φ 1 pA0 pc0 p0.length (List.flatMap encI p0)) (ha1 : Sl φ 4 pA1 pc1 p1.length (List.flatMap encT_target_Sheet p1)) (ha2 : Sl φ 2 pA2 pc2 p2.length (List.flatMap encT_target_Step p2)) {r : Bool} (hm : m_klisterlaw03_TargetDue p0 p1 p2 = some r) : Gv Try.prog 3 [.slice pA0 p0.length pc0, .slice pA1 p1.length pc1, .slice pA2 p2.length pc2] w (RetS w [] φ (fun φ_ L_ v => v = .bool r ∧ L_ = [])) := by
 unfold m_klisterlaw03_TargetDue at hm
 refine Gv.of Try.func3 rfl Try.ntmps3 Try.results3 rfl ?_
 refine CK.seq ?_
 refine CK.reg (ks := []) (.fl 0 (.nil)) rfl ?_
 refine OKS.ra rfl rfl rfl rfl rfl rfl ?_
 refine OKS.e ?_
 refine thenQ_n ?_
 refine CK.seq ?_
 have q := bnd hm
 obtain ⟨b1, hx3, hm4⟩ := q
 refine CK.cut (fun σ_ w_ => ∃ (φ_ : PHeap), σ_ 0 = .slice pA0 p0.length pc0 ∧ σ_ 1 = .slice pA1 p1.length pc1 ∧ σ_ 2 = .slice pA2 p2.length pc2 ∧ σ_ 47 = .bool b1 ∧ PHeap.Le φ φ_ ∧ St ⟨w, [], φ⟩ φ_ [] w_) ?_ ?_
 ·refine CK.reg (ks := []) (.fl 0 (.fl 1 (.fl 2 (.fl 3 (.fl 4 (.fl 5 (.fl 6 (.fl 7 (.fl 8 (.fl 9 (.fl 10 (.fl 11 (.fl 12 (.fl 13 (.fl 14 (.fl 15 (.fl 16 (.fl 17 (.fl 18 (.fl 19 (.fl 20 (.fl 21 (.fl 22 (.nil)))))))))))))))))))))))) rfl ?_
  refine OKS.rm rfl rfl rfl rfl rfl rfl ?_
  refine OKS.r rfl rfl rfl rfl (fun _ => Runs.len rfl rfl Try.runUnderlying22) ?_
  refine OKS.r rfl rfl rfl rfl (fun _ => Runs.gtr rfl rfl rfl) ?_
  refine OKS.rm rfl rfl rfl rfl rfl rfl ?_
  by_cases c5 : 3 < (↑p0.length : Int)
  ·have hm6 := hx3; rw [if_pos c5] at hm6; replace c5 := Hid.mk c5
   refine OKS.rm rfl rfl rfl (wantedY rfl rfl (decT c5.out)) rfl rfl ?_
   refine OKS.r rfl rfl rfl (wantedY rfl rfl (decT c5.out)) (fun _ => Runs.len rfl rfl Try.runUnderlying22) ?_
   refine OKS.r rfl rfl rfl (wantedY rfl rfl (decT c5.out)) (fun _ => Runs.leq rfl rfl rfl) ?_
   refine OKS.r rfl rfl rfl rfl (fun _ => Runs.pickT rfl (decT c5.out) rfl) ?_
   refine OKS.rm rfl rfl rfl rfl rfl rfl ?_
   by_cases c7 : (↑p0.length : Int) ≤ 8
   ·have hm8 := hm6; rw [if_pos c7] at hm8; replace c7 := Hid.mk c7
    refine OKS.p rfl rfl rfl (wantedN rfl rfl (decT c7.out) rfl) ?_
    refine OKS.p rfl rfl rfl (wantedN rfl rfl (decT c7.out) rfl) ?_
    refine OKS.p rfl rfl rfl (wantedN rfl rfl (decT c7.out) rfl) ?_
    refine OKS.r rfl rfl rfl rfl (fun _ => Runs.pickT rfl (decT c7.out) rfl) ?_
    refine OKS.rm rfl rfl rfl rfl rfl rfl ?_
    refine OKS.p rfl rfl rfl (wantedN rfl rfl rfl rfl) ?_
    refine OKS.p rfl rfl rfl (wantedN rfl rfl rfl rfl) ?_
    refine OKS.p rfl rfl rfl (wantedN rfl rfl rfl rfl) ?_
    refine OKS.r rfl rfl rfl rfl (fun _ => Runs.pickT rfl rfl rfl) ?_
    refine OKS.rm rfl rfl rfl rfl rfl rfl ?_
    refine OKS.p rfl rfl rfl (wantedN rfl rfl rfl rfl) ?_
    refine OKS.p rfl rfl rfl (wantedN rfl rfl rfl rfl) ?_
    refine OKS.p rfl rfl rfl (wantedN rfl rfl rfl rfl) ?_
    refine OKS.r rfl rfl rfl rfl (fun _ => Runs.pickT rfl rfl rfl) ?_
    refine OKS.e ?_
    cases hm8
    exact thenQ_n ⟨rfl, ⟨φ, rfl, rfl, rfl, rfl, (PHeap.Le.refl _), hS⟩⟩
   ·have hm10 := hm6; rw [if_neg c7] at hm10; replace c7 := Hid.mk c7
    refine OKS.rm rfl rfl rfl (wantedY rfl rfl (decF c7.out)) rfl rfl ?_
    refine OKS.r rfl rfl rfl (wantedY rfl rfl (decF c7.out)) (fun _ => Runs.len rfl rfl Try.runUnderlying22) ?_
    refine OKS.r rfl rfl rfl (wantedY rfl rfl (decF c7.out)) (fun _ => Runs.gtr rfl rfl rfl) ?_
    refine OKS.r rfl rfl rfl rfl (fun _ => Runs.pickF rfl (decF c7.out) rfl) ?_
    refine OKS.rm rfl rfl rfl rfl rfl rfl ?_
    by_cases c11 : 12 < (↑p0.length : Int)
    ·have hm12 := hm10; rw [if_pos c11] at hm12; replace c11 := Hid.mk c11
     refine OKS.p rfl rfl rfl (wantedN rfl rfl (decT c11.out) rfl) ?_
     refine OKS.p rfl rfl rfl (wantedN rfl rfl (decT c11.out) rfl) ?_
     refine OKS.p rfl rfl rfl (wantedN rfl rfl (decT c11.out) rfl) ?_
     refine OKS.r rfl rfl rfl rfl (fun _ => Runs.pickT rfl (decT c11.out) rfl) ?_
     refine OKS.rm rfl rfl rfl rfl rfl rfl ?_
     refine OKS.p rfl rfl rfl (wantedN rfl rfl rfl rfl) ?_
     refine OKS.p rfl rfl rfl (wantedN rfl rfl rfl rfl) ?_
     refine OKS.p rfl rfl rfl (wantedN rfl rfl rfl rfl) ?_
     refine OKS.r rfl rfl rfl rfl (fun _ => Runs.pickT rfl rfl rfl) ?_
     refine OKS.e ?_
     cases hm12
     exact thenQ_n ⟨rfl, ⟨φ, rfl, rfl, rfl, rfl, (PHeap.Le.refl _), hS⟩⟩
    ·have hm14 := hm10; rw [if_neg c11] at hm14; replace c11 := Hid.mk c11
     refine OKS.rm rfl rfl rfl (wantedY rfl rfl (decF c11.out)) rfl rfl ?_
     refine OKS.r rfl rfl rfl (wantedY rfl rfl (decF c11.out)) (fun _ => Runs.len rfl rfl Try.runUnderlying23) ?_
     refine OKS.r rfl rfl rfl (wantedY rfl rfl (decF c11.out)) (fun _ => Runs.gtr rfl rfl rfl) ?_
     refine OKS.r rfl rfl rfl rfl (fun _ => Runs.pickF rfl (decF c11.out) rfl) ?_
     refine OKS.rm rfl rfl rfl rfl rfl rfl ?_
     by_cases c15 : 25 < (↑p1.length : Int)
     ·have hm16 := hm14; rw [if_pos c15] at hm16; replace c15 := Hid.mk c15
      refine OKS.p rfl rfl rfl (wantedN rfl rfl (decT c15.out) rfl) ?_
      refine OKS.p rfl rfl rfl (wantedN rfl rfl (decT c15.out) rfl) ?_
      refine OKS.p rfl rfl rfl (wantedN rfl rfl (decT c15.out) rfl) ?_
      refine OKS.r rfl rfl rfl rfl (fun _ => Runs.pickT rfl (decT c15.out) rfl) ?_
      refine OKS.e ?_
      cases hm16
      exact thenQ_n ⟨rfl, ⟨φ, rfl, rfl, rfl, rfl, (PHeap.Le.refl _), hS⟩⟩
     ·have hm18 := hm14; rw [if_neg c15] at hm18; replace c15 := Hid.mk c15
      refine OKS.rm rfl rfl rfl (wantedY rfl rfl (decF c15.out)) rfl rfl ?_
      refine OKS.r rfl rfl rfl (wantedY rfl rfl (decF c15.out)) (fun _ => Runs.len rfl rfl Try.runUnderlying24) ?_
      refine OKS.r rfl rfl rfl (wantedY rfl rfl (decF c15.out)) (fun _ => Runs.gtr rfl rfl rfl) ?_
      refine OKS.r rfl rfl rfl rfl (fun _ => Runs.pickF rfl (decF c15.out) rfl) ?_
      refine OKS.e ?_
      cases hm18
      exact thenQ_n ⟨rfl, ⟨φ, rfl, rfl, rfl, rfl, (PHeap.Le.refl _), hS⟩⟩
  ·have hm20 := hx3; rw [if_neg c5] at hm20; replace c5 := Hid.mk c5
   refine OKS.p rfl rfl rfl (wantedN rfl rfl (decF c5.out) rfl) ?_
   refine OKS.p rfl rfl rfl (wantedN rfl rfl (decF c5.out) rfl) ?_
   refine OKS.p rfl rfl rfl (wantedN rfl rfl (decF c5.out) rfl) ?_
   refine OKS.r rfl rfl rfl rfl (fun _ => Runs.pickF rfl (decF c5.out) rfl) ?_
   refine OKS.rm rfl rfl rfl rfl rfl rfl ?_
   refine OKS.rm rfl rfl rfl (wantedY rfl rfl rfl) rfl rfl ?_
   refine OKS.r rfl rfl rfl (wantedY rfl rfl rfl) (fun _ => Runs.len rfl rfl Try.runUnderlying22) ?_
   refine OKS.r rfl rfl rfl (wantedY rfl rfl rfl) (fun _ => Runs.gtr rfl rfl rfl) ?_
   refine OKS.r rfl rfl rfl rfl (fun _ => Runs.pickF rfl rfl rfl) ?_
   refine OKS.rm rfl rfl rfl rfl rfl rfl ?_
   by_cases c21 : 12 < (↑p0.length : Int)
   ·have hm22 := hm20; rw [if_pos c21] at hm22; replace c21 := Hid.mk c21
    refine OKS.p rfl rfl rfl (wantedN rfl rfl (decT c21.out) rfl) ?_
    refine OKS.p rfl rfl rfl (wantedN rfl rfl (decT c21.out) rfl) ?_
    refine OKS.p rfl rfl rfl (wantedN rfl rfl (decT c21.out) rfl) ?_
    refine OKS.r rfl rfl rfl rfl (fun _ => Runs.pickT rfl (decT c21.out) rfl) ?_
    refine OKS.rm rfl rfl rfl rfl rfl rfl ?_
    refine OKS.p rfl rfl rfl (wantedN rfl rfl rfl rfl) ?_
    refine OKS.p rfl rfl rfl (wantedN rfl rfl rfl rfl) ?_
    refine OKS.p rfl rfl rfl (wantedN rfl rfl rfl rfl) ?_
    refine OKS.r rfl rfl rfl rfl (fun _ => Runs.pickT rfl rfl rfl) ?_
    refine OKS.e ?_
    cases hm22
    exact thenQ_n ⟨rfl, ⟨φ, rfl, rfl, rfl, rfl, (PHeap.Le.refl _), hS⟩⟩
   ·have hm24 := hm20; rw [if_neg c21] at hm24; replace c21 := Hid.mk c21
    refine OKS.rm rfl rfl rfl (wantedY rfl rfl (decF c21.out)) rfl rfl ?_
    refine OKS.r rfl rfl rfl (wantedY rfl rfl (decF c21.out)) (fun _ => Runs.len rfl rfl Try.runUnderlying23) ?_
    refine OKS.r rfl rfl rfl (wantedY rfl rfl (decF c21.out)) (fun _ => Runs.gtr rfl rfl rfl) ?_
    refine OKS.r rfl rfl rfl rfl (fun _ => Runs.pickF rfl (decF c21.out) rfl) ?_
    refine OKS.rm rfl rfl rfl rfl rfl rfl ?_
    by_cases c25 : 25 < (↑p1.length : Int)
    ·have hm26 := hm24; rw [if_pos c25] at hm26; replace c25 := Hid.mk c25
     refine OKS.p rfl rfl rfl (wantedN rfl rfl (decT c25.out) rfl) ?_
     refine OKS.p rfl rfl rfl (wantedN rfl rfl (decT c25.out) rfl) ?_
     refine OKS.p rfl rfl rfl (wantedN rfl rfl (decT c25.out) rfl) ?_
     refine OKS.r rfl rfl rfl rfl (fun _ => Runs.pickT rfl (decT c25.out) rfl) ?_
     refine OKS.e ?_
     cases hm26
     exact thenQ_n ⟨rfl, ⟨φ, rfl, rfl, rfl, rfl, (PHeap.Le.refl _), hS⟩⟩
    ·have hm28 := hm24; rw [if_neg c25] at hm28; replace c25 := Hid.mk c25
     refine OKS.rm rfl rfl rfl (wantedY rfl rfl (decF c25.out)) rfl rfl ?_
     refine OKS.r rfl rfl rfl (wantedY rfl rfl (decF c25.out)) (fun _ => Runs.len rfl rfl Try.runUnderlying24) ?_
     refine OKS.r rfl rfl rfl (wantedY rfl rfl (decF c25.out)) (fun _ => Runs.gtr rfl rfl rfl) ?_
     refine OKS.r rfl rfl rfl rfl (fun _ => Runs.pickF rfl (decF c25.out) rfl) ?_
     refine OKS.e ?_
     cases hm28
     exact thenQ_n ⟨rfl, ⟨φ, rfl, rfl, rfl, rfl, (PHeap.Le.refl _), hS⟩⟩
 ·rintro σ30 W31 ⟨φ32, f35, f36, f37, f38, le33, hS34⟩
  by_cases c39 : b1 = true
  ·have hm40 := hm4; rw [if_pos c39] at hm40; replace c39 := Hid.mk c39
   refine CK.condT (f38.trans (congrArg Value.bool c39.out)) ?_
   refine CK.seq ?_
   refine CK.reg (ks := []) (.fx 0 (.fl 1 (.nil)) .stop) rfl ?_
   have q := bnd hm40
   obtain ⟨x41, h42, hm43⟩ := q
   refine OKS.callH 0 rfl rfl rfl rfl (Enters.mk rfl rfl Try.call10 mapnil rfl) hS34 (fun hs => w_klisterlaw03_awake W31 φ32 hs h42) (.inr rfl) ?_
   rintro φ44 L45 v46 W47 le48 hS49 ⟨rfl, rfl⟩
   have hS50 : St ⟨w, [], φ⟩ φ44 [] W47 := hS49
   refine OKS.ra rfl rfl rfl rfl rfl rfl ?_
   refine OKS.e ?_
   refine thenQ_n ?_
   refine CK.ret ?_
   refine thenQ_r ?_
   cases hm43
   exact ⟨rfl, _, (res1 rfl), φ44, _, hS50, rfl, rfl⟩
  ·have hm51 := hm4; rw [if_neg c39] at hm51; replace c39 := Hid.mk c39
   refine CK.condF (f38.trans (congrArg Value.bool (Bool.eq_false_iff.2 c39.out))) ?_
   refine CK.skip ?_
   refine thenQ_n ?_
   refine CK.seq ?_
   refine CK.reg (ks := []) (.fl 0 (.fx 1 (.fl 2 (.fx 3 (.fl 4 (.fx 5 (.fl 6 (.fx 7 (.fl 8 (.fl 9 (.fl 10 (.fl 11 (.nil))))) .stop)) .stop)) .stop)) .stop)) rfl ?_
   refine OKS.rm rfl rfl rfl rfl rfl f35 ?_
   have h52 := ha0.le le33
   have q := bnd hm51
   obtain ⟨x53, h54, hm55⟩ := q
   refine OKS.callH 0 rfl rfl rfl rfl (Enters.mk rfl rfl Try.call11 (mapcons rfl mapnil) rfl) hS34 (fun hs => w_klisterkit_Clone_int p0 pA0 pc0 W31 φ32 hs h52 h54) (.inr rfl) ?_
   rintro φ56 L57 v58 W59 le60 hS61 ⟨A62, c63, rfl, rfl⟩
   have hS65 : St ⟨w, [], φ⟩ φ56 [.row A62 c63 3 1 (List.flatMap encI x53)] W59 := hS61
   refine OKS.rm rfl rfl rfl rfl rfl f36 ?_
   have h66 := ha1.le le33
   have h67 := h66.le le60
   have q := bnd hm55
   obtain ⟨x68, h69, hm70⟩ := q
   refine OKS.callH 0 rfl rfl rfl rfl (Enters.mk rfl rfl Try.call12 (mapcons rfl mapnil) rfl) hS65 (fun hs => w_klisterkit_Clone_target_Sheet p1 pA1 pc1 W59 φ56 hs h67 h69) (.inr rfl) ?_
   rintro φ71 L72 v73 W74 le75 hS76 ⟨A77, c78, rfl, rfl⟩
   have hS80 : St ⟨w, [], φ⟩ φ71 [.row A77 c78 31 4 (List.flatMap encT_target_Sheet x68), .row A62 c63 3 1 (List.flatMap encI x53)] W74 := hS76
   refine OKS.rm rfl rfl rfl rfl rfl f37 ?_
   have h81 := ha2.le le33
   have h82 := h81.le le60
   have h83 := h82.le le75
   have q := bnd hm70
   obtain ⟨x84, h85, hm86⟩ := q
   refine OKS.callH 0 rfl rfl rfl rfl (Enters.mk rfl rfl Try.call13 (mapcons rfl mapnil) rfl) hS80 (fun hs => w_klisterkit_Clone_target_Step p2 pA2 pc2 W74 φ71 hs h83 h85) (.inr rfl) ?_
   rintro φ87 L88 v89 W90 le91 hS92 ⟨A93, c94, rfl, rfl⟩
   have hS96 : St ⟨w, [], φ⟩ φ87 [.row A93 c94 35 2 (List.flatMap encT_target_Step x84), .row A77 c78 31 4 (List.flatMap encT_target_Sheet x68), .row A62 c63 3 1 (List.flatMap encI x53)] W90 := hS92
   refine OKS.rm rfl rfl rfl rfl rfl f36 ?_
   have h97 := h67.le le75
   have h98 := h97.le le91
   have q := bnd hm86
   obtain ⟨x99, h100, hm101⟩ := q
   refine OKS.callH 0 rfl rfl rfl rfl (Enters.mk rfl rfl Try.call14 (mapcons rfl mapnil) rfl) hS96 (fun hs => w_klisterlaw03_Sheets p1 pA1 pc1 W90 φ87 hs h98 h100) (.inr rfl) ?_
   rintro φ102 L103 v104 W105 le106 hS107 ⟨A108, c109, rfl, rfl⟩
   have hS111 : St ⟨w, [], φ⟩ φ102 [.row A108 c109 121 4 (List.flatMap encT_klisterref03_Sheet x99), .row A93 c94 35 2 (List.flatMap encT_target_Step x84), .row A77 c78 31 4 (List.flatMap encT_target_Sheet x68), .row A62 c63 3 1 (List.flatMap encI x53)] W105 := hS107
   refine OKS.ra rfl rfl rfl rfl rfl rfl ?_
   refine OKS.ra rfl rfl rfl rfl rfl rfl ?_
   refine OKS.ra rfl rfl rfl rfl rfl rfl ?_
   refine OKS.ra rfl rfl rfl rfl rfl rfl ?_
   refine OKS.e ?_
   refine thenQ_n ?_
   refine CK.seq ?_
   refine CK.reg (ks := []) (.fl 0 (.fl 1 (.fx 2 (.fl 3 (.fl 4 (.fl 5 (.fl 6 (.fl 7 (.nil)))))) .stop))) rfl ?_
   refine OKS.rm rfl rfl rfl rfl rfl rfl ?_
   refine OKS.rm rfl rfl rfl rfl rfl rfl ?_
   have q := hS111.freezeR (k := 3) (n := x53.length) rfl (flatMap_len (f := encI) (sz := 1) (fun _ => rfl) x53) (by decide)
   obtain ⟨φ112, le113, hs114, hS115⟩ := q
   have hS116 : St ⟨w, [], φ⟩ φ112 [.row A108 c109 121 4 (List.flatMap encT_klisterref03_Sheet x99), .row A93 c94 35 2 (List.flatMap encT_target_Step x84), .row A77 c78 31 4 (List.flatMap encT_target_Sheet x68)] W105 := hS115
   have q := hS116.freezeR (k := 2) (n := x68.length) rfl (flatMap_len (f := encT_target_Sheet) (sz := 4) (fun _ => rfl) x68) (by decide)
   obtain ⟨φ117, le118, hs119, hS120⟩ := q
   have hS121 : St ⟨w, [], φ⟩ φ117 [.row A108 c109 121 4 (List.flatMap encT_klisterref03_Sheet x99), .row A93 c94 35 2 (List.flatMap encT_target_Step x84)] W105 := hS120
   have h122 := hs114.le le118
   have q := bnd hm101
   obtain ⟨⟨x123, x124⟩, h125, hm126⟩ := q
   try dsimp only at hm126
   refine OKS.callH 0 rfl rfl rfl rfl (Enters.mk rfl rfl Try.call15 (mapcons rfl (mapcons rfl mapnil)) rfl) hS121 (fun hs => w_target_Few x53 A62 c63 x68 A77 c78 W105 φ117 hs h122 hs119 h125) (.inr rfl) ?_
   rintro φ127 L128 v129 W130 le131 hS132 ⟨rfl, rfl⟩
   have hS133 : St ⟨w, [], φ⟩ φ127 [.row A108 c109 121 4 (List.flatMap encT_klisterref03_Sheet x99), .row A93 c94 35 2 (List.flatMap encT_target_Step x84)] W130 := hS132
   refine OKS.rm rfl rfl rfl rfl rfl rfl ?_
   refine OKS.r rfl rfl rfl rfl (fun _ => Runs.ext rfl rfl (v := .bool x123) rfl) ?_
   refine OKS.r rfl rfl rfl rfl (fun _ => Runs.ext rfl rfl (v := .int .i64 x124) rfl) ?_
   refine OKS.ra rfl rfl rfl rfl rfl rfl ?_
   refine OKS.ra rfl rfl rfl rfl rfl rfl ?_
   refine OKS.e ?_
   refine thenQ_n ?_
   refine CK.seq ?_
   refine CK.reg (ks := []) (.fl 0 (.fl 1 (.fx 2 (.fl 3 (.fl 4 (.fl 5 (.fl 6 (.fl 7 (.nil)))))) .stop))) rfl ?_
   refine OKS.rm rfl rfl rfl rfl rfl f35 ?_
   refine OKS.rm rfl rfl rfl rfl rfl rfl ?_
   have q := hS133.freezeR (k := 0) (n := x99.length) rfl (flatMap_len (f := encT_klisterref03_Sheet) (sz := 4) (fun _ => rfl) x99) (by decide)
   obtain ⟨φ134, le135, hs136, hS137⟩ := q
   have hS138 : St ⟨w, [], φ⟩ φ134 [.row A93 c94 35 2 (List.flatMap encT_target_Step x84)] W130 := hS137
   have h139 := h52.le le60
   have h140 := h139.le le75
   have h141 := h140.le le91
   have h142 := h141.le le106
   have h143 := h142.le le113
   have h144 := h143.le le118
   have h145 := h144.le le131
   have h146 := h145.le le135
   have q := bnd hm126
   obtain ⟨⟨x147, x148⟩, h149, hm150⟩ := q
   try dsimp only at hm150
   refine OKS.callH 0 rfl rfl rfl rfl (Enters.mk rfl rfl Try.call16 (mapcons rfl (mapcons rfl mapnil)) rfl) hS138 (fun hs => w_klisterref03_Few p0 pA0 pc0 x99 A108 c109 W130 φ134 hs h146 hs136 h149) (.inr rfl) ?_
   rintro φ151 L152 v153 W154 le155 hS156 ⟨rfl, rfl⟩
   have hS157 : St ⟨w, [], φ⟩ φ151 [.row A93 c94 35 2 (List.flatMap encT_target_Step x84)] W154 := hS156
   refine OKS.rm rfl rfl rfl rfl rfl rfl ?_
   refine OKS.r rfl rfl rfl rfl (fun _ => Runs.ext rfl rfl (v := .bool x147) rfl) ?_
   refine OKS.r rfl rfl rfl rfl (fun _ => Runs.ext rfl rfl (v := .int .i64 x148) rfl) ?_
   refine OKS.ra rfl rfl rfl rfl rfl rfl ?_
   refine OKS.ra rfl rfl rfl rfl rfl rfl ?_
   refine OKS.e ?_
   refine thenQ_n ?_
   refine CK.seq ?_
   refine CK.seq ?_
   refine CK.reg (ks := []) (.fl 0 (.fl 1 (.fl 2 (.fl 3 (.fl 4 (.fl 5 (.fl 6 (.fl 7 (.nil))))))))) rfl ?_
   refine OKS.rm rfl rfl rfl rfl rfl rfl ?_
   refine OKS.rm rfl rfl rfl rfl rfl rfl ?_
   refine OKS.r rfl rfl rfl rfl (fun _ => Runs.neB rfl rfl rfl Try.runUnderlying4) ?_
   refine OKS.rm rfl rfl rfl rfl rfl rfl ?_
   by_cases c158 : (x123 == x147) = true
   ·have hm159 := hm150; rw [if_pos c158] at hm159; replace c158 := Hid.mk c158
    refine OKS.rm rfl rfl rfl (wantedY rfl rfl (congrArg (fun b => Value.bool (!b)) c158.out)) rfl rfl ?_
    refine OKS.rm rfl rfl rfl (wantedY rfl rfl (congrArg (fun b => Value.bool (!b)) c158.out)) rfl rfl ?_
    refine OKS.r rfl rfl rfl (wantedY rfl rfl (congrArg (fun b => Value.bool (!b)) c158.out)) (fun _ => Runs.neq rfl rfl rfl) ?_
    refine OKS.r rfl rfl rfl rfl (fun _ => Runs.pickF rfl (congrArg (fun b => Value.bool (!b)) c158.out) rfl) ?_
    refine OKS.e ?_
    refine thenQ_n ?_
    by_cases c160 : x124 = x148
    ·have hm161 := hm159; rw [if_pos c160] at hm161; replace c160 := Hid.mk c160
     refine CK.condF (decF (fun h => h c160.out)) ?_
     refine CK.skip ?_
     refine thenQ_n ?_
     refine CK.seq ?_
     refine CK.reg (ks := []) (.fl 0 (.fl 1 (.fl 2 (.fx 3 (.fl 4 (.fl 5 (.fl 6 (.fl 7 (.fl 8 (.nil)))))) .stop)))) rfl ?_
     refine OKS.rm rfl rfl rfl rfl rfl rfl ?_
     refine OKS.rm rfl rfl rfl rfl rfl rfl ?_
     refine OKS.rm rfl rfl rfl rfl rfl rfl ?_
     have q := hS157.freezeR (k := 0) (n := x84.length) rfl (flatMap_len (f := encT_target_Step) (sz := 2) (fun _ => rfl) x84) (by decide)
     obtain ⟨φ162, le163, hs164, hS165⟩ := q
     have hS166 : St ⟨w, [], φ⟩ φ162 [] W154 := hS165
     have h167 := h122.le le131
     have h168 := h167.le le135
     have h169 := h168.le le155
     have h170 := h169.le le163
     have h171 := hs119.le le131
     have h172 := h171.le le135
     have h173 := h172.le le155
     have h174 := h173.le le163
     have q := bnd hm161
     obtain ⟨⟨x175, x176⟩, h177, hm178⟩ := q
     try dsimp only at hm178
     refine OKS.callH 0 rfl rfl rfl rfl (Enters.mk rfl rfl Try.call17 (mapcons rfl (mapcons rfl (mapcons rfl mapnil))) rfl) hS166 (fun hs => w_target_RoundShows x53 A62 c63 x68 A77 c78 x84 A93 c94 W154 φ162 hs h170 h174 hs164 h177) (.inr rfl) ?_
     rintro φ179 L180 v181 W182 le183 hS184 ⟨rfl, rfl⟩
     have hS185 : St ⟨w, [], φ⟩ φ179 [] W182 := hS184
     refine OKS.rm rfl rfl rfl rfl rfl rfl ?_
     refine OKS.r rfl rfl rfl rfl (fun _ => Runs.ext rfl rfl (v := .int .i64 x175) rfl) ?_
     refine OKS.r rfl rfl rfl rfl (fun _ => Runs.ext rfl rfl (v := .int .i64 x176) rfl) ?_
     refine OKS.ra rfl rfl rfl rfl rfl rfl ?_
     refine OKS.ra rfl rfl rfl rfl rfl rfl ?_
     refine OKS.e ?_
     refine thenQ_n ?_
     refine CK.seq ?_
     refine CK.fresh fun σ186 hσ187 => ?_
     have f188 : σ186 0 = .slice pA0 p0.length pc0 := (hσ187 0).trans f35
     have f189 : σ186 1 = .slice pA1 p1.length pc1 := (hσ187 1).trans f36
     have f190 : σ186 2 = .slice pA2 p2.length pc2 := (hσ187 2).trans f37
     have f191 : σ186 7 = .slice A62 x53.length c63 := (hσ187 7).trans rfl
     have f192 : σ186 8 = .slice A77 x68.length c78 := (hσ187 8).trans rfl
     have f193 : σ186 9 = .slice A93 x84.length c94 := (hσ187 9).trans rfl
     have f194 : σ186 10 = .slice A108 x99.length c109 := (hσ187 10).trans rfl
     have f195 : σ186 12 = .int .i64 x176 := (hσ187 12).trans rfl
     have f196 : σ186 13 = .bool x147 := (hσ187 13).trans rfl
     have f197 : σ186 14 = .int .i64 x148 := (hσ187 14).trans rfl
     have f198 : σ186 15 = .int .i64 x175 := (hσ187 15).trans rfl
     clear hσ187
     refine CK.reg (ks := []) (.fl 0 (.fl 1 (.fl 2 (.fx 3 (.fx 4 (.fl 5 (.fl 6 (.fl 7 (.fl 8 (.fl 9 (.nil)))))) .stop) .stop)))) rfl ?_
     refine OKS.rm rfl rfl rfl rfl rfl f188 ?_
     refine OKS.rm rfl rfl rfl rfl rfl f194 ?_
     refine OKS.rm rfl rfl rfl rfl rfl f190 ?_
     have h199 := h83.le le91
     have h200 := h199.le le106
     have h201 := h200.le le113
     have h202 := h201.le le118
     have h203 := h202.le le131
     have h204 := h203.le le135
     have h205 := h204.le le155
     have h206 := h205.le le163
     have h207 := h206.le le183
     have q := bnd hm178
     obtain ⟨x208, h209, hm210⟩ := q
     refine OKS.callH 0 rfl rfl rfl rfl (Enters.mk rfl rfl Try.call19 (mapcons rfl mapnil) rfl) hS185 (fun hs => w_klisterlaw03_stepped p2 pA2 pc2 W182 φ179 hs h207 h209) (.inr rfl) ?_
     rintro φ211 L212 v213 W214 le215 hS216 ⟨A217, c218, rfl, rfl⟩
     have hS220 : St ⟨w, [], φ⟩ φ211 [.row A217 c218 137 2 (List.flatMap encT_klisterref03_Step x208)] W214 := hS216
     have q := hS220.freezeR (k := 0) (n := x208.length) rfl (flatMap_len (f := encT_klisterref03_Step) (sz := 2) (fun _ => rfl) x208) (by decide)
     obtain ⟨φ221, le222, hs223, hS224⟩ := q
     have hS225 : St ⟨w, [], φ⟩ φ221 [] W214 := hS224
     have h226 := h146.le le155
     have h227 := h226.le le163
     have h228 := h227.le le183
     have h229 := h228.le le215
     have h230 := h229.le le222
     have h231 := hs136.le le155
     have h232 := h231.le le163
     have h233 := h232.le le183
     have h234 := h233.le le215
     have h235 := h234.le le222
     have q := bnd hm210
     obtain ⟨⟨x236, x237⟩, h238, hm239⟩ := q
     try dsimp only at hm239
     refine OKS.callH 0 rfl rfl rfl rfl (Enters.mk rfl rfl Try.call18 (mapcons rfl (mapcons rfl (mapcons rfl mapnil))) rfl) hS225 (fun hs => w_klisterref03_RoundShows p0 pA0 pc0 x99 A108 c109 x208 A217 c218 W214 φ221 hs h230 h235 hs223 h238) (.inr rfl) ?_
     rintro φ240 L241 v242 W243 le244 hS245 ⟨rfl, rfl⟩
     have hS246 : St ⟨w, [], φ⟩ φ240 [] W243 := hS245
     refine OKS.rm rfl rfl rfl rfl rfl rfl ?_
     refine OKS.r rfl rfl rfl rfl (fun _ => Runs.ext rfl rfl (v := .int .i64 x236) rfl) ?_
     refine OKS.r rfl rfl rfl rfl (fun _ => Runs.ext rfl rfl (v := .int .i64 x237) rfl) ?_
     refine OKS.ra rfl rfl rfl rfl rfl rfl ?_
     refine OKS.ra rfl rfl rfl rfl rfl rfl ?_
     refine OKS.e ?_
     refine thenQ_n ?_
     refine CK.seq ?_
     refine CK.seq ?_
     refine CK.reg (ks := []) (.fl 0 (.fl 1 (.fl 2 (.fl 3 (.fl 4 (.fl 5 (.fl 6 (.fl 7 (.nil))))))))) rfl ?_
     refine OKS.rm rfl rfl rfl rfl rfl f198 ?_
     refine OKS.rm rfl rfl rfl rfl rfl rfl ?_
     refine OKS.r rfl rfl rfl rfl (fun _ => Runs.neq rfl rfl rfl) ?_
     refine OKS.rm rfl rfl rfl rfl rfl rfl ?_
     by_cases c247 : x175 = x236
     ·have hm248 := hm239; rw [if_pos c247] at hm248; replace c247 := Hid.mk c247
      refine OKS.rm rfl rfl rfl (wantedY rfl rfl (decF (fun h => h c247.out))) rfl f195 ?_
      refine OKS.rm rfl rfl rfl (wantedY rfl rfl (decF (fun h => h c247.out))) rfl rfl ?_
      refine OKS.r rfl rfl rfl (wantedY rfl rfl (decF (fun h => h c247.out))) (fun _ => Runs.neq rfl rfl rfl) ?_
      refine OKS.r rfl rfl rfl rfl (fun _ => Runs.pickF rfl (decF (fun h => h c247.out)) rfl) ?_
      refine OKS.e ?_
      refine thenQ_n ?_
      by_cases c249 : x176 = x237
      ·have hm250 := hm248; rw [if_pos c249] at hm250; replace c249 := Hid.mk c249
       refine CK.condF (decF (fun h => h c249.out)) ?_
       refine CK.skip ?_
       refine thenQ_n ?_
       refine CK.seq ?_
       refine CK.reg (ks := []) (.fl 0 (.fl 1 (.fx 2 (.fl 3 (.fl 4 (.fl 5 (.fl 6 (.fl 7 (.nil)))))) .stop))) rfl ?_
       refine OKS.rm rfl rfl rfl rfl rfl f191 ?_
       refine OKS.rm rfl rfl rfl rfl rfl f192 ?_
       have h251 := h170.le le183
       have h252 := h251.le le215
       have h253 := h252.le le222
       have h254 := h253.le le244
       have h255 := h174.le le183
       have h256 := h255.le le215
       have h257 := h256.le le222
       have h258 := h257.le le244
       have q := bnd hm250
       obtain ⟨⟨x259, x260⟩, h261, hm262⟩ := q
       try dsimp only at hm262
       refine OKS.callH 0 rfl rfl rfl rfl (Enters.mk rfl rfl Try.call20 (mapcons rfl (mapcons rfl mapnil)) rfl) hS246 (fun hs => w_target_Round x53 A62 c63 x68 A77 c78 W243 φ240 hs h254 h258 h261) (.inr rfl) ?_
       rintro φ263 L264 v265 W266 le267 hS268 ⟨A269, c270, rfl, rfl⟩
       have hS272 : St ⟨w, [], φ⟩ φ263 [.row A269 c270 35 2 (List.flatMap encT_target_Step x259)] W266 := hS268
       refine OKS.rm rfl rfl rfl rfl rfl rfl ?_
       refine OKS.r rfl rfl rfl rfl (fun _ => Runs.ext rfl rfl (v := .slice A269 x259.length c270) rfl) ?_
       refine OKS.r rfl rfl rfl rfl (fun _ => Runs.ext rfl rfl (v := .int .i64 x260) rfl) ?_
       refine OKS.ra rfl rfl rfl rfl rfl rfl ?_
       refine OKS.ra rfl rfl rfl rfl rfl rfl ?_
       refine OKS.e ?_
       refine thenQ_n ?_
       have q := jn_some hm262
       obtain ⟨r273, hx274⟩ := q
       refine CK.cut (fun σ_ w_ => r273 = .inl () ∧ ∃ (φ_ : PHeap), σ_ 0 = .slice pA0 p0.length pc0 ∧ σ_ 1 = .slice pA1 p1.length pc1 ∧ σ_ 2 = .slice pA2 p2.length pc2 ∧ σ_ 7 = .slice A62 x53.length c63 ∧ σ_ 8 = .slice A77 x68.length c78 ∧ σ_ 9 = .slice A93 x84.length c94 ∧ σ_ 13 = .bool x147 ∧ σ_ 14 = .int .i64 x148 ∧ PHeap.Le φ263 φ_ ∧ St ⟨w, [], φ⟩ φ_ [] w_) ?_ ?_
       ·refine CK.block ?_
        refine CK.seq ?_
        refine CK.reg (ks := []) (.fl 0 (.fl 1 (.fl 2 (.nil)))) rfl ?_
        refine OKS.rm rfl rfl rfl rfl rfl f197 ?_
        refine OKS.r rfl rfl rfl rfl (fun _ => Runs.neq rfl rfl rfl) ?_
        refine OKS.ra rfl rfl rfl rfl rfl rfl ?_
        refine OKS.e ?_
        refine thenQ_n ?_
        by_cases c275 : x148 = 0
        ·have hm276 := hx274; rw [if_pos c275] at hm276; replace c275 := Hid.mk c275
         refine CK.condF (decF (fun h => h c275.out)) ?_
         refine CK.seq ?_
         refine CK.reg (ks := []) (.fl 0 (.fl 1 (.fl 2 (.nil)))) rfl ?_
         refine OKS.rm rfl rfl rfl rfl rfl f196 ?_
         refine OKS.r rfl rfl rfl rfl (fun _ => Runs.notT rfl rfl) ?_
         refine OKS.ra rfl rfl rfl rfl rfl rfl ?_
         refine OKS.e ?_
         refine thenQ_n ?_
         by_cases c277 : x147 = true
         ·have hm278 := hm276; rw [if_pos c277] at hm278; replace c277 := Hid.mk c277
          refine CK.condF (congrArg (fun b => Value.bool (!b)) c277.out) ?_
          refine CK.seq ?_
          refine CK.seq ?_
          refine CK.reg (ks := []) (.fl 0 (.fl 1 (.fl 2 (.fx 3 (.fx 4 (.fl 5 (.fl 6 (.fl 7 (.fl 8 (.fl 9 (.nil)))))) .stop) .stop)))) rfl ?_
          refine OKS.rm rfl rfl rfl rfl rfl f188 ?_
          refine OKS.rm rfl rfl rfl rfl rfl f194 ?_
          refine OKS.rm rfl rfl rfl rfl rfl rfl ?_
          have q := hS272.freezeR (k := 0) (n := x259.length) rfl (flatMap_len (f := encT_target_Step) (sz := 2) (fun _ => rfl) x259) (by decide)
          obtain ⟨φ279, le280, hs281, hS282⟩ := q
          have hS283 : St ⟨w, [], φ⟩ φ279 [] W266 := hS282
          have q := bnd hm278
          obtain ⟨x284, h285, hm286⟩ := q
          refine OKS.callH 0 rfl rfl rfl rfl (Enters.mk rfl rfl Try.call19 (mapcons rfl mapnil) rfl) hS283 (fun hs => w_klisterlaw03_stepped x259 A269 c270 W266 φ279 hs hs281 h285) (.inr rfl) ?_
          rintro φ287 L288 v289 W290 le291 hS292 ⟨A293, c294, rfl, rfl⟩
          have hS296 : St ⟨w, [], φ⟩ φ287 [.row A293 c294 137 2 (List.flatMap encT_klisterref03_Step x284)] W290 := hS292
          have q := hS296.freezeR (k := 0) (n := x284.length) rfl (flatMap_len (f := encT_klisterref03_Step) (sz := 2) (fun _ => rfl) x284) (by decide)
          obtain ⟨φ297, le298, hs299, hS300⟩ := q
          have hS301 : St ⟨w, [], φ⟩ φ297 [] W290 := hS300
          have h302 := h230.le le244
          have h303 := h302.le le267
          have h304 := h303.le le280
          have h305 := h304.le le291
          have h306 := h305.le le298
          have h307 := h235.le le244
          have h308 := h307.le le267
          have h309 := h308.le le280
          have h310 := h309.le le291
          have h311 := h310.le le298
          have q := bnd hm286
          obtain ⟨⟨x312, x313⟩, h314, hm315⟩ := q
          try dsimp only at hm315
          refine OKS.callH 0 rfl rfl rfl rfl (Enters.mk rfl rfl Try.call18 (mapcons rfl (mapcons rfl (mapcons rfl mapnil))) rfl) hS301 (fun hs => w_klisterref03_RoundShows p0 pA0 pc0 x99 A108 c109 x284 A293 c294 W290 φ297 hs h306 h311 hs299 h314) (.inr rfl) ?_
          rintro φ316 L317 v318 W319 le320 hS321 ⟨rfl, rfl⟩
          have hS322 : St ⟨w, [], φ⟩ φ316 [] W319 := hS321
          refine OKS.rm rfl rfl rfl rfl rfl rfl ?_
          refine OKS.r rfl rfl rfl rfl (fun _ => Runs.ext rfl rfl (v := .int .i64 x312) rfl) ?_
          refine OKS.r rfl rfl rfl rfl (fun _ => Runs.ext rfl rfl (v := .int .i64 x313) rfl) ?_
          refine OKS.ra rfl rfl rfl rfl rfl rfl ?_
          refine OKS.ra rfl rfl rfl rfl rfl rfl ?_
          refine OKS.e ?_
          refine thenQ_n ?_
          refine CK.seq ?_
          refine CK.fresh fun σ323 hσ324 => ?_
          have f325 : σ323 0 = .slice pA0 p0.length pc0 := (hσ324 0).trans f188
          have f326 : σ323 1 = .slice pA1 p1.length pc1 := (hσ324 1).trans f189
          have f327 : σ323 2 = .slice pA2 p2.length pc2 := (hσ324 2).trans f190
          have f328 : σ323 7 = .slice A62 x53.length c63 := (hσ324 7).trans f191
          have f329 : σ323 8 = .slice A77 x68.length c78 := (hσ324 8).trans f192
          have f330 : σ323 9 = .slice A93 x84.length c94 := (hσ324 9).trans f193
          have f331 : σ323 10 = .slice A108 x99.length c109 := (hσ324 10).trans f194
          have f332 : σ323 12 = .int .i64 x260 := (hσ324 12).trans rfl
          have f333 : σ323 13 = .bool x147 := (hσ324 13).trans f196
          have f334 : σ323 14 = .int .i64 x148 := (hσ324 14).trans f197
          have f335 : σ323 18 = .slice A269 x259.length c270 := (hσ324 18).trans rfl
          have f336 : σ323 19 = .int .i64 x312 := (hσ324 19).trans rfl
          have f337 : σ323 20 = .int .i64 x313 := (hσ324 20).trans rfl
          clear hσ324
          refine CK.reg (ks := []) (.fl 0 (.fl 1 (.fl 2 (.fl 3 (.fl 4 (.fl 5 (.fl 6 (.fl 7 (.fl 8 (.fl 9 (.nil))))))))))) rfl ?_
          refine OKS.rm rfl rfl rfl rfl rfl f332 ?_
          refine OKS.r rfl rfl rfl rfl (fun _ => Runs.neq rfl rfl rfl) ?_
          refine OKS.rm rfl rfl rfl rfl rfl rfl ?_
          by_cases c338 : x260 = 0
          ·have hm339 := hm315; rw [if_pos c338] at hm339; replace c338 := Hid.mk c338
           refine OKS.rm rfl rfl rfl (wantedY rfl rfl (decF (fun h => h c338.out))) rfl f337 ?_
           refine OKS.r rfl rfl rfl (wantedY rfl rfl (decF (fun h => h c338.out))) (fun _ => Runs.neq rfl rfl rfl) ?_
           refine OKS.r rfl rfl rfl rfl (fun _ => Runs.pickF rfl (decF (fun h => h c338.out)) rfl) ?_
           refine OKS.rm rfl rfl rfl rfl rfl rfl ?_
           by_cases c340 : x313 = 0
           ·have hm341 := hm339; rw [if_pos c340] at hm341; replace c340 := Hid.mk c340
            refine OKS.rm rfl rfl rfl (wantedY rfl rfl (decF (fun h => h c340.out))) rfl f336 ?_
            refine OKS.r rfl rfl rfl (wantedY rfl rfl (decF (fun h => h c340.out))) (fun _ => Runs.geq rfl rfl rfl) ?_
            refine OKS.r rfl rfl rfl rfl (fun _ => Runs.pickF rfl (decF (fun h => h c340.out)) rfl) ?_
            refine OKS.e ?_
            refine thenQ_n ?_
            by_cases c342 : 0 ≤ x312
            ·have hm343 := hm341; rw [if_pos c342] at hm343; replace c342 := Hid.mk c342
             refine CK.condT (decT c342.out) ?_
             refine CK.seq ?_
             refine CK.reg (ks := []) (.fl 0 (.nil)) rfl ?_
             refine OKS.ra rfl rfl rfl rfl rfl rfl ?_
             refine OKS.e ?_
             refine thenQ_n ?_
             refine CK.ret ?_
             refine thenQ_r ?_
             refine blockQ_r ?_
             have q := esc_spec hm343
             obtain ⟨v344, hm345, e346⟩ := q
             obtain rfl := jn_inr hm262 hx274 e346
             refine thenQ_r ?_
             cases hm345
             exact ⟨rfl, _, (res1 rfl), φ316, _, hS322, rfl, rfl⟩
            ·have hm347 := hm341; rw [if_neg c342] at hm347; replace c342 := Hid.mk c342
             refine CK.condF (decF c342.out) ?_
             refine CK.skip ?_
             refine thenQ_n ?_
             refine CK.seq ?_
             refine CK.reg (ks := []) (.fl 0 (.fl 1 (.fl 2 (.fx 3 (.fl 4 (.fl 5 (.nil))) .stop)))) rfl ?_
             refine OKS.rm rfl rfl rfl rfl rfl f325 ?_
             refine OKS.r rfl rfl rfl rfl (fun _ => Runs.len rfl rfl Try.runUnderlying22) ?_
             refine OKS.rm rfl rfl rfl rfl rfl f331 ?_
             have h348 := h311.le le320
             have q := bnd hm347
             obtain ⟨x349, h350, hm351⟩ := q
             refine OKS.callH 0 rfl rfl rfl rfl (Enters.mk rfl rfl Try.call21 (mapcons rfl (mapcons rfl mapnil)) rfl) hS322 (fun hs => w_klisterref03_Truths (↑p0.length : Int) x99 A108 c109 W319 φ316 hs h348 h350) (.inr rfl) ?_
             rintro φ352 L353 v354 W355 le356 hS357 ⟨A358, c359, c360, rfl, rfl, h362⟩
             have hS363 : St ⟨w, [], φ⟩ φ352 [.row A358 c359 22 1 c360] W355 := hS357
             refine OKS.r rfl rfl rfl rfl (fun _ => Runs.len rfl rfl Try.runUnderlying49) ?_
             refine OKS.r rfl rfl rfl rfl (fun _ => Runs.eql rfl rfl rfl) ?_
             refine OKS.e ?_
             refine thenQ_n ?_
             by_cases c364 : (↑x349.length : Int) = 0
             ·have hm365 := hm351; rw [if_pos c364] at hm365; replace c364 := Hid.mk c364
              refine CK.condT (decT c364.out) ?_
              refine CK.seq ?_
              refine CK.reg (ks := []) (.fl 0 (.fl 1 (.fl 2 (.nil)))) rfl ?_
              refine OKS.rm rfl rfl rfl rfl rfl f335 ?_
              refine OKS.r rfl rfl rfl rfl (fun _ => Runs.len rfl rfl Try.runUnderlying24) ?_
              refine OKS.rm rfl rfl rfl rfl rfl rfl ?_
              refine OKS.e ?_
              refine thenQ_n ?_
              refine CK.block ?_
              have q := jn_some hm365
              obtain ⟨r368, hX369⟩ := q
              have q := forR_le hX369
              obtain ⟨hle370, hf371⟩ := q
              replace hle370 := Hid.mk hle370
              refine CK.forN (fun k367 _ σ_ w_ => ∃ (φ_ : PHeap), σ_ 132 = .int .i64 (↑k367 : Int) ∧ σ_ 0 = .slice pA0 p0.length pc0 ∧ σ_ 1 = .slice pA1 p1.length pc1 ∧ σ_ 2 = .slice pA2 p2.length pc2 ∧ σ_ 7 = .slice A62 x53.length c63 ∧ σ_ 8 = .slice A77 x68.length c78 ∧ σ_ 9 = .slice A93 x84.length c94 ∧ σ_ 13 = .bool x147 ∧ σ_ 14 = .int .i64 x148 ∧ σ_ 130 = .slice A269 x259.length c270 ∧ σ_ 131 = .int .i64 (↑x259.length : Int) ∧ PHeap.Le φ352 φ_ ∧ St ⟨w, [], φ⟩ φ_ [] w_) hf371 ?_ ?_ ?_
              ·exact ⟨φ352, rfl, f325, f326, f327, f328, f329, f330, f333, f334, rfl, rfl, (PHeap.Le.refl _), (hS363.pick [] _ (by decide) rfl)⟩
              ·rintro k367 ⟨⟩ xx374 σ372 W373 hk377 ⟨φ379, fi378, f382, f383, f384, f385, f386, f387, f388, f389, f390, f391, le380, hS381⟩ hx375 hb376
               try dsimp only at hx375
               have c392 : Hid ((↑k367 : Int) < (↑x259.length : Int)) := Hid.mk (lp_lt0 hk377)
               replace hk377 := Hid.mk hk377
               have hi393 : Hid (w64 ((↑k367 : Int) + 1) = (↑(k367 + 1) : Int)) := Hid.mk (by have h1 := hle370.out; have h2 := c392.out; rw [w64_in] <;> omega)
               refine CK.seq ?_
               refine CK.reg (ks := []) (.fl 0 (.nil)) rfl ?_
               refine OKS.r rfl rfl rfl rfl (fun _ => Runs.lss rfl fi378 f391) ?_
               refine OKS.e ?_
               refine thenQ_n ?_
               refine CK.seq ?_
               refine CK.condT (decT c392.out) ?_
               refine CK.skip ?_
               refine thenQ_n ?_
               refine CK.seq ?_
               refine CK.block ?_
               refine CK.seq ?_
               refine CK.reg (ks := []) (.fl 0 (.fl 1 (.fx 2 (.fx 3 (.nil) .stop) .stop))) rfl ?_
               have q := bnd hx375
               obtain ⟨x394, h395, hm396⟩ := q
               have h397 := hs281.le le291
               have h398 := h397.le le298
               have h399 := h398.le le320
               have h400 := h399.le le356
               have h401 := h400.le le380
               have q := h401.el (fun _ => rfl) (idx_get h395)
               obtain ⟨b402, off403, hA404, hC405⟩ := q
               refine OKS.r rfl rfl rfl rfl (fun _ => Runs.iaN rfl f390 hA404 fi378 Try.runUnderlying24 Try.sizeOf35 (idx_lt h395)) ?_
               refine OKS.m rfl rfl rfl rfl (hS381.ldCA (f := 0) hC405 rfl rfl Try.isAgg35 Try.sizeOf35 (us := [.int .i64 x394.Kind, .int .i64 x394.Index]) rfl rfl) rfl ?_
               refine OKS.alloc (cs := [.int .i64 0, .int .i64 0]) rfl rfl rfl rfl rfl Try.zeroValue35 rfl hS381 ?_
               intro W406 b407 hS408
               refine OKS.st (j := 0) (vs := [.int .i64 x394.Kind, .int .i64 x394.Index]) rfl rfl rfl rfl hS408 rfl rfl rfl rfl Try.sizeOf35 (Nat.le_of_ble_eq_true rfl) rfl rfl rfl ?_
               intro W410 hS411
               have hS412 : St ⟨w, [], φ⟩ φ379 [.blk b407 35 [.int .i64 x394.Kind, .int .i64 x394.Index]] W410 := hS411
               refine OKS.e ?_
               refine thenQ_n ?_
               refine CK.seq ?_
               refine CK.reg (ks := []) (.fl 0 (.fl 1 (.fl 2 (.nil)))) rfl ?_
               refine OKS.r rfl rfl rfl rfl (fun _ => Runs.fa rfl rfl Try.runUnderlying35 rfl Try.sizeOf33) ?_
               refine OKS.m rfl rfl rfl rfl (hS412.ldB (j := 0) rfl rfl rfl Try.isAgg33 (v := .int .i64 x394.Kind) rfl) rfl ?_
               refine OKS.r rfl rfl rfl rfl (fun _ => Runs.eql rfl rfl rfl) ?_
               refine OKS.e ?_
               refine thenQ_n ?_
               by_cases c413 : x394.Kind = 4
               ·have hm414 := hm396; rw [if_pos c413] at hm414; replace c413 := Hid.mk c413
                refine CK.condT (decT c413.out) ?_
                refine CK.seq ?_
                refine CK.reg (ks := []) (.fl 0 (.nil)) rfl ?_
                refine OKS.ra rfl rfl rfl rfl rfl rfl ?_
                refine OKS.e ?_
                refine thenQ_n ?_
                refine CK.ret ?_
                refine blockQ_r ?_
                refine thenQ_r ?_
                have q := esc_spec hm414
                obtain ⟨v415, hm416, e417⟩ := q
                obtain rfl := jn_inr hm365 hX369 (hb376 v415 e417)
                refine thenQ_r ?_
                refine blockQ_r ?_
                refine blockQ_r ?_
                have q := esc_spec hm416
                obtain ⟨v418, hm419, e420⟩ := q
                obtain rfl := jn_inr hm262 hx274 e420
                refine thenQ_r ?_
                cases hm419
                exact ⟨rfl, _, (res1 rfl), φ379, _, (hS412.pick [] _ (by decide) rfl), rfl, rfl⟩
               ·have hm421 := hm396; rw [if_neg c413] at hm421; replace c413 := Hid.mk c413
                refine CK.condF (decF c413.out) ?_
                refine CK.skip ?_
                refine blockQ_n ?_
                refine thenQ_n ?_
                refine CK.reg (ks := []) (.fl 0 (.fl 1 (.nil))) rfl ?_
                refine OKS.r rfl rfl rfl rfl (fun _ => Runs.to (Runs.addw rfl fi378 rfl) (congrArg (Value.int .i64) hi393.out)) ?_
                refine OKS.rm rfl rfl rfl rfl rfl rfl ?_
                refine OKS.e ?_
                obtain rfl := Option.some.inj hm421
                exact thenQ_n ⟨rfl, _, rfl, ⟨φ379, rfl, f382, f383, f384, f385, f386, f387, f388, f389, f390, f391, le380, (hS412.pick [] _ (by decide) rfl)⟩⟩
              ·rintro ⟨⟩ σ422 W423 ⟨φ426, fi425, f429, f430, f431, f432, f433, f434, f435, f436, f437, f438, le427, hS428⟩ hb424
               have hm439 := jn_inl hm365 hX369 hb424
               try dsimp only at hm439
               have c440 : Hid (¬ ((↑(((↑x259.length : Int) : Int) - 0).toNat : Int) < (↑x259.length : Int))) := Hid.mk (lp_end0)
               refine CK.seq ?_
               refine CK.reg (ks := []) (.fl 0 (.nil)) rfl ?_
               refine OKS.r rfl rfl rfl rfl (fun _ => Runs.lss rfl fi425 f438) ?_
               refine OKS.e ?_
               refine thenQ_n ?_
               refine CK.seq ?_
               refine CK.condF (decF c440.out) ?_
               refine CK.exit ?_
               refine thenQ_e ?_
               refine thenQ_e ?_
               refine blockQ_h ?_
               refine blockQ_n ?_
               exact thenQ_n ⟨rfl, (Option.some.inj hm439).symm, ⟨φ426, f429, f430, f431, f432, f433, f434, f435, f436, (((((le280.trans le291).trans le298).trans le320).trans le356).trans le427), hS428⟩⟩
             ·have hm441 := hm351; rw [if_neg c364] at hm441; replace c364 := Hid.mk c364
              refine CK.condF (decF c364.out) ?_
              refine CK.skip ?_
              refine blockQ_n ?_
              exact thenQ_n ⟨rfl, (Option.some.inj hm441).symm, ⟨φ352, f325, f326, f327, f328, f329, f330, f333, f334, ((((le280.trans le291).trans le298).trans le320).trans le356), (hS363.pick [] _ (by decide) rfl)⟩⟩
           ·have hm442 := hm339; rw [if_neg c340] at hm442; replace c340 := Hid.mk c340
            refine OKS.p rfl rfl rfl (wantedN rfl rfl (decT c340.out) rfl) ?_
            refine OKS.p rfl rfl rfl (wantedN rfl rfl (decT c340.out) rfl) ?_
            refine OKS.r rfl rfl rfl rfl (fun _ => Runs.pickT rfl (decT c340.out) rfl) ?_
            refine OKS.e ?_
            refine thenQ_n ?_
            refine CK.condT rfl ?_
            refine CK.seq ?_
            refine CK.reg (ks := []) (.fl 0 (.nil)) rfl ?_
            refine OKS.ra rfl rfl rfl rfl rfl rfl ?_
            refine OKS.e ?_
            refine thenQ_n ?_
            refine CK.ret ?_
            refine thenQ_r ?_
            refine blockQ_r ?_
            have q := esc_spec hm442
            obtain ⟨v443, hm444, e445⟩ := q
            obtain rfl := jn_inr hm262 hx274 e445
            refine thenQ_r ?_
            cases hm444
            exact ⟨rfl, _, (res1 rfl), φ316, _, hS322, rfl, rfl⟩
          ·have hm446 := hm315; rw [if_neg c338] at hm446; replace c338 := Hid.mk c338
           refine OKS.p rfl rfl rfl (wantedN rfl rfl (decT c338.out) rfl) ?_
           refine OKS.p rfl rfl rfl (wantedN rfl rfl (decT c338.out) rfl) ?_
           refine OKS.r rfl rfl rfl rfl (fun _ => Runs.pickT rfl (decT c338.out) rfl) ?_
           refine OKS.rm rfl rfl rfl rfl rfl rfl ?_
           refine OKS.p rfl rfl rfl (wantedN rfl rfl rfl rfl) ?_
           refine OKS.p rfl rfl rfl (wantedN rfl rfl rfl rfl) ?_
           refine OKS.r rfl rfl rfl rfl (fun _ => Runs.pickT rfl rfl rfl) ?_
           refine OKS.e ?_
           refine thenQ_n ?_
           refine CK.condT rfl ?_
           refine CK.seq ?_
           refine CK.reg (ks := []) (.fl 0 (.nil)) rfl ?_
           refine OKS.ra rfl rfl rfl rfl rfl rfl ?_
           refine OKS.e ?_
           refine thenQ_n ?_
           refine CK.ret ?_
           refine thenQ_r ?_
           refine blockQ_r ?_
           have q := esc_spec hm446
           obtain ⟨v447, hm448, e449⟩ := q
           obtain rfl := jn_inr hm262 hx274 e449
           refine thenQ_r ?_
           cases hm448
           exact ⟨rfl, _, (res1 rfl), φ316, _, hS322, rfl, rfl⟩
         ·have hm450 := hm276; rw [if_neg c277] at hm450; replace c277 := Hid.mk c277
          refine CK.condT (congrArg (fun b => Value.bool (!b)) (Bool.eq_false_iff.2 c277.out)) ?_
          refine CK.seq ?_
          refine CK.reg (ks := []) (.fl 0 (.fl 1 (.fl 2 (.fl 3 (.fl 4 (.fl 5 (.fl 6 (.nil)))))))) rfl ?_
          refine OKS.rm rfl rfl rfl rfl rfl rfl ?_
          refine OKS.r rfl rfl rfl rfl (fun _ => Runs.neq rfl rfl rfl) ?_
          refine OKS.rm rfl rfl rfl rfl rfl rfl ?_
          by_cases c451 : x260 = 6
          ·have hm452 := hm450; rw [if_pos c451] at hm452; replace c451 := Hid.mk c451
           refine OKS.rm rfl rfl rfl (wantedY rfl rfl (decF (fun h => h c451.out))) rfl rfl ?_
           refine OKS.r rfl rfl rfl (wantedY rfl rfl (decF (fun h => h c451.out))) (fun _ => Runs.len rfl rfl Try.runUnderlying24) ?_
           refine OKS.r rfl rfl rfl (wantedY rfl rfl (decF (fun h => h c451.out))) (fun _ => Runs.gtr rfl rfl rfl) ?_
           refine OKS.r rfl rfl rfl rfl (fun _ => Runs.pickF rfl (decF (fun h => h c451.out)) rfl) ?_
           refine OKS.e ?_
           refine thenQ_n ?_
           by_cases c453 : 0 < (↑x259.length : Int)
           ·have hm454 := hm452; rw [if_pos c453] at hm454; replace c453 := Hid.mk c453
            refine CK.condT (decT c453.out) ?_
            refine CK.seq ?_
            refine CK.reg (ks := []) (.fl 0 (.nil)) rfl ?_
            refine OKS.ra rfl rfl rfl rfl rfl rfl ?_
            refine OKS.e ?_
            refine thenQ_n ?_
            refine CK.ret ?_
            refine blockQ_r ?_
            have q := esc_spec hm454
            obtain ⟨v455, hm456, e457⟩ := q
            obtain rfl := jn_inr hm262 hx274 e457
            refine thenQ_r ?_
            cases hm456
            exact ⟨rfl, _, (res1 rfl), φ263, _, (hS272.pick [] _ (by decide) rfl), rfl, rfl⟩
           ·have hm458 := hm452; rw [if_neg c453] at hm458; replace c453 := Hid.mk c453
            refine CK.condF (decF c453.out) ?_
            refine CK.skip ?_
            refine blockQ_n ?_
            exact thenQ_n ⟨rfl, (Option.some.inj hm458).symm, ⟨φ263, f188, f189, f190, f191, f192, f193, f196, f197, (PHeap.Le.refl _), (hS272.pick [] _ (by decide) rfl)⟩⟩
          ·have hm459 := hm450; rw [if_neg c451] at hm459; replace c451 := Hid.mk c451
           refine OKS.p rfl rfl rfl (wantedN rfl rfl (decT c451.out) rfl) ?_
           refine OKS.p rfl rfl rfl (wantedN rfl rfl (decT c451.out) rfl) ?_
           refine OKS.p rfl rfl rfl (wantedN rfl rfl (decT c451.out) rfl) ?_
           refine OKS.r rfl rfl rfl rfl (fun _ => Runs.pickT rfl (decT c451.out) rfl) ?_
           refine OKS.e ?_
           refine thenQ_n ?_
           refine CK.condT rfl ?_
           refine CK.seq ?_
           refine CK.reg (ks := []) (.fl 0 (.nil)) rfl ?_
           refine OKS.ra rfl rfl rfl rfl rfl rfl ?_
           refine OKS.e ?_
           refine thenQ_n ?_
           refine CK.ret ?_
           refine blockQ_r ?_
           have q := esc_spec hm459
           obtain ⟨v460, hm461, e462⟩ := q
           obtain rfl := jn_inr hm262 hx274 e462
           refine thenQ_r ?_
           cases hm461
           exact ⟨rfl, _, (res1 rfl), φ263, _, (hS272.pick [] _ (by decide) rfl), rfl, rfl⟩
        ·have hm463 := hx274; rw [if_neg c275] at hm463; replace c275 := Hid.mk c275
         refine CK.condT (decT c275.out) ?_
         refine CK.seq ?_
         refine CK.reg (ks := []) (.fl 0 (.fl 1 (.fl 2 (.fl 3 (.fl 4 (.fl 5 (.fl 6 (.fl 7 (.nil))))))))) rfl ?_
         refine OKS.rm rfl rfl rfl rfl rfl rfl ?_
         refine OKS.rm rfl rfl rfl rfl rfl f197 ?_
         refine OKS.r rfl rfl rfl rfl (fun _ => Runs.neq rfl rfl rfl) ?_
         refine OKS.rm rfl rfl rfl rfl rfl rfl ?_
         by_cases c464 : x260 = x148
         ·have hm465 := hm463; rw [if_pos c464] at hm465; replace c464 := Hid.mk c464
          refine OKS.rm rfl rfl rfl (wantedY rfl rfl (decF (fun h => h c464.out))) rfl rfl ?_
          refine OKS.r rfl rfl rfl (wantedY rfl rfl (decF (fun h => h c464.out))) (fun _ => Runs.len rfl rfl Try.runUnderlying24) ?_
          refine OKS.r rfl rfl rfl (wantedY rfl rfl (decF (fun h => h c464.out))) (fun _ => Runs.gtr rfl rfl rfl) ?_
          refine OKS.r rfl rfl rfl rfl (fun _ => Runs.pickF rfl (decF (fun h => h c464.out)) rfl) ?_
          refine OKS.e ?_
          refine thenQ_n ?_
          by_cases c466 : 0 < (↑x259.length : Int)
          ·have hm467 := hm465; rw [if_pos c466] at hm467; replace c466 := Hid.mk c466
           refine CK.condT (decT c466.out) ?_
           refine CK.seq ?_
           refine CK.reg (ks := []) (.fl 0 (.nil)) rfl ?_
           refine OKS.ra rfl rfl rfl rfl rfl rfl ?_
           refine OKS.e ?_
           refine thenQ_n ?_
           refine CK.ret ?_
           refine blockQ_r ?_
           have q := esc_spec hm467
           obtain ⟨v468, hm469, e470⟩ := q
           obtain rfl := jn_inr hm262 hx274 e470
           refine thenQ_r ?_
           cases hm469
           exact ⟨rfl, _, (res1 rfl), φ263, _, (hS272.pick [] _ (by decide) rfl), rfl, rfl⟩
          ·have hm471 := hm465; rw [if_neg c466] at hm471; replace c466 := Hid.mk c466
           refine CK.condF (decF c466.out) ?_
           refine CK.skip ?_
           refine blockQ_n ?_
           exact thenQ_n ⟨rfl, (Option.some.inj hm471).symm, ⟨φ263, f188, f189, f190, f191, f192, f193, f196, f197, (PHeap.Le.refl _), (hS272.pick [] _ (by decide) rfl)⟩⟩
         ·have hm472 := hm463; rw [if_neg c464] at hm472; replace c464 := Hid.mk c464
          refine OKS.p rfl rfl rfl (wantedN rfl rfl (decT c464.out) rfl) ?_
          refine OKS.p rfl rfl rfl (wantedN rfl rfl (decT c464.out) rfl) ?_
          refine OKS.p rfl rfl rfl (wantedN rfl rfl (decT c464.out) rfl) ?_
          refine OKS.r rfl rfl rfl rfl (fun _ => Runs.pickT rfl (decT c464.out) rfl) ?_
          refine OKS.e ?_
          refine thenQ_n ?_
          refine CK.condT rfl ?_
          refine CK.seq ?_
          refine CK.reg (ks := []) (.fl 0 (.nil)) rfl ?_
          refine OKS.ra rfl rfl rfl rfl rfl rfl ?_
          refine OKS.e ?_
          refine thenQ_n ?_
          refine CK.ret ?_
          refine blockQ_r ?_
          have q := esc_spec hm472
          obtain ⟨v473, hm474, e475⟩ := q
          obtain rfl := jn_inr hm262 hx274 e475
          refine thenQ_r ?_
          cases hm474
          exact ⟨rfl, _, (res1 rfl), φ263, _, (hS272.pick [] _ (by decide) rfl), rfl, rfl⟩
       ·rintro σ476 W477 ⟨er478, ⟨φ479, f482, f483, f484, f485, f486, f487, f488, f489, le480, hS481⟩⟩
        have hm490 := jn_inl hm262 hx274 er478
        try dsimp only at hm490
        refine CK.seq ?_
        refine CK.reg (ks := []) (.fx 0 (.fl 1 (.fx 2 (.fx 3 (.fl 4 (.fx 5 (.fl 6 (.fx 7 (.fx 8 (.fx 9 (.fl 10 (.fl 11 (.fl 12 (.fl 13 (.fl 14 (.nil)))))) .stop) .stop) .stop)) .stop)) .stop) .stop)) .stop) rfl ?_
        refine OKS.buildSlice (pv := [(0, .int .i64 0)]) (zs := [.int .i64 0]) (cs := [.int .i64 0]) rfl rfl rfl rfl rfl (mapcons2 rfl mapnil2) Try.runUnderlying22 Try.sizeOf3 Try.zeroValue3 rfl rfl rfl rfl rfl hS481 ?_
        intro W491 b492 hS493
        have hS495 : St ⟨w, [], φ⟩ φ479 [.row (some ⟨b492, 0, none⟩) 1 3 1 (List.flatMap encI [0])] W491 := hS493
        refine OKS.rm rfl rfl rfl rfl rfl f485 ?_
        refine OKS.buildSlice (pv := [(0, .int .i64 1)]) (zs := [.int .i64 0]) (cs := [.int .i64 1]) rfl rfl rfl rfl rfl (mapcons2 rfl mapnil2) Try.runUnderlying22 Try.sizeOf3 Try.zeroValue3 rfl rfl rfl rfl rfl hS495 ?_
        intro W496 b497 hS498
        have hS500 : St ⟨w, [], φ⟩ φ479 [.row (some ⟨b497, 0, none⟩) 1 3 1 (List.flatMap encI [1]), .row (some ⟨b492, 0, none⟩) 1 3 1 (List.flatMap encI [0])] W496 := hS498
        have q := hS500.freezeR (k := 1) (n := [0].length) rfl (flatMap_len (f := encI) (sz := 1) (fun _ => rfl) [0]) (by decide)
        obtain ⟨φ504, le505, hs506, hS507⟩ := q
        have hS508 : St ⟨w, [], φ⟩ φ504 [.row (some ⟨b497, 0, none⟩) 1 3 1 (List.flatMap encI [1])] W496 := hS507
        have q := hS508.freezeR (k := 0) (n := [1].length) rfl (flatMap_len (f := encI) (sz := 1) (fun _ => rfl) [1]) (by decide)
        obtain ⟨φ509, le510, hs511, hS512⟩ := q
        have hS513 : St ⟨w, [], φ⟩ φ509 [] W496 := hS512
        refine OKS.buildSlice (pv := [(0, .slice (some ⟨b492, 0, none⟩) 1 1), (1, .slice A62 x53.length c63), (2, .slice (some ⟨b497, 0, none⟩) 1 1)]) (zs := [.slice none 0 0, .slice none 0 0, .slice none 0 0]) (cs := [.slice (some ⟨b492, 0, none⟩) 1 1, .slice A62 x53.length c63, .slice (some ⟨b497, 0, none⟩) 1 1]) rfl rfl rfl rfl rfl (mapcons2 rfl (mapcons2 rfl (mapcons2 rfl mapnil2))) Try.runUnderlying49 Try.sizeOf22 Try.zeroValue22 rfl rfl rfl rfl rfl hS513 ?_
        intro W501 b502 hS503
        have h515 := h254.le le267
        have h516 := h515.le le480
        have h517 := h516.le le505
        have h518 := h517.le le510
        have h519 := hs506.le le510
        have hr520 : RlL φ509 rl22 [[0], x53, [1]] [.slice (some ⟨b492, 0, none⟩) 1 1, .slice A62 x53.length c63, .slice (some ⟨b497, 0, none⟩) 1 1] := (RlL.cons (R := rl22) (x := [0]) (vs := [.slice (some ⟨b492, 0, none⟩) 1 1]) ⟨(some ⟨b492, 0, none⟩), 1, rfl, h519⟩ (RlL.cons (R := rl22) (x := x53) (vs := [.slice A62 x53.length c63]) ⟨A62, c63, rfl, h518⟩ (RlL.cons (R := rl22) (x := [1]) (vs := [.slice (some ⟨b497, 0, none⟩) 1 1]) ⟨(some ⟨b497, 0, none⟩), 1, rfl, hs511⟩ RlL.nil)))
        have hS521 : St ⟨w, [], φ⟩ φ509 [.row (some ⟨b502, 0, none⟩) 3 22 1 [.slice (some ⟨b492, 0, none⟩) 1 1, .slice A62 x53.length c63, .slice (some ⟨b497, 0, none⟩) 1 1]] W501 := hS503
        refine OKS.rm rfl rfl rfl rfl rfl f486 ?_
        have q := bnd hm490
        obtain ⟨x522, h523, hm524⟩ := q
        refine OKS.callH 0 rfl rfl rfl rfl (Enters.mk rfl rfl Try.call23 (mapcons rfl (mapcons rfl mapnil)) rfl) hS521 (fun hs => w_klisterlaw03_span 0 0 W501 φ509 hs h523) (.inr rfl) ?_
        rintro φ525 L526 v527 W528 le529 hS530 ⟨rfl, rfl⟩
        have hS531 : St ⟨w, [], φ⟩ φ525 [.row (some ⟨b502, 0, none⟩) 3 22 1 [.slice (some ⟨b492, 0, none⟩) 1 1, .slice A62 x53.length c63, .slice (some ⟨b497, 0, none⟩) 1 1]] W528 := hS530
        refine OKS.r rfl rfl rfl rfl (fun _ => Runs.build (pv := [(2, .agg #[.int .i64 x522.Lo, .int .i64 x522.Hi])]) (z := [.int .i64 0, .int .i64 0, .int .i64 0, .int .i64 0]) (cs := [.int .i64 0, .int .i64 0, .int .i64 x522.Lo, .int .i64 x522.Hi]) rfl (mapcons2 rfl mapnil2) Try.zeroValue31 places31 rfl rfl) ?_
        refine OKS.buildSlice (pv := [(0, .agg #[.int .i64 0, .int .i64 0, .int .i64 x522.Lo, .int .i64 x522.Hi])]) (zs := [.int .i64 0, .int .i64 0, .int .i64 0, .int .i64 0]) (cs := [.int .i64 0, .int .i64 0, .int .i64 x522.Lo, .int .i64 x522.Hi]) rfl rfl rfl rfl rfl (mapcons2 rfl mapnil2) Try.runUnderlying23 Try.sizeOf31 Try.zeroValue31 rfl rfl rfl rfl rfl hS531 ?_
        intro W532 b533 hS534
        have hS536 : St ⟨w, [], φ⟩ φ525 [.row (some ⟨b533, 0, none⟩) 1 31 4 (List.flatMap encT_target_Sheet [(⟨0, 0, x522⟩ : T_target_Sheet)]), .row (some ⟨b502, 0, none⟩) 3 22 1 [.slice (some ⟨b492, 0, none⟩) 1 1, .slice A62 x53.length c63, .slice (some ⟨b497, 0, none⟩) 1 1]] W532 := hS534
        have q := hS536.freezeR (k := 0) (n := [(⟨0, 0, x522⟩ : T_target_Sheet)].length) rfl (flatMap_len (f := encT_target_Sheet) (sz := 4) (fun _ => rfl) [(⟨0, 0, x522⟩ : T_target_Sheet)]) (by decide)
        obtain ⟨φ540, le541, hs542, hS543⟩ := q
        have hS544 : St ⟨w, [], φ⟩ φ540 [.row (some ⟨b502, 0, none⟩) 3 22 1 [.slice (some ⟨b492, 0, none⟩) 1 1, .slice A62 x53.length c63, .slice (some ⟨b497, 0, none⟩) 1 1]] W532 := hS543
        refine OKS.buildSlice (pv := [(0, .slice none 0 0), (1, .slice A77 x68.length c78), (2, .slice (some ⟨b533, 0, none⟩) 1 1)]) (zs := [.slice none 0 0, .slice none 0 0, .slice none 0 0]) (cs := [.slice none 0 0, .slice A77 x68.length c78, .slice (some ⟨b533, 0, none⟩) 1 1]) rfl rfl rfl rfl rfl (mapcons2 rfl (mapcons2 rfl (mapcons2 rfl mapnil2))) Try.runUnderlying54 Try.sizeOf23 Try.zeroValue23 rfl rfl rfl rfl rfl hS544 ?_
        intro W537 b538 hS539
        have h546 := h258.le le267
        have h547 := h546.le le480
        have h548 := h547.le le505
        have h549 := h548.le le510
        have h550 := h549.le le529
        have h551 := h550.le le541
        have hr552 : RlL φ540 rl23 [[], x68, [(⟨0, 0, x522⟩ : T_target_Sheet)]] [.slice none 0 0, .slice A77 x68.length c78, .slice (some ⟨b533, 0, none⟩) 1 1] := (RlL.cons (R := rl23) (x := []) (vs := [.slice none 0 0]) ⟨none, 0, rfl, (by first | exact Sl.nil _ _ _ _ | exact SlR.nil)⟩ (RlL.cons (R := rl23) (x := x68) (vs := [.slice A77 x68.length c78]) ⟨A77, c78, rfl, h551⟩ (RlL.cons (R := rl23) (x := [(⟨0, 0, x522⟩ : T_target_Sheet)]) (vs := [.slice (some ⟨b533, 0, none⟩) 1 1]) ⟨(some ⟨b533, 0, none⟩), 1, rfl, hs542⟩ RlL.nil)))
        have hS553 : St ⟨w, [], φ⟩ φ540 [.row (some ⟨b538, 0, none⟩) 3 23 1 [.slice none 0 0, .slice A77 x68.length c78, .slice (some ⟨b533, 0, none⟩) 1 1], .row (some ⟨b502, 0, none⟩) 3 22 1 [.slice (some ⟨b492, 0, none⟩) 1 1, .slice A62 x53.length c63, .slice (some ⟨b497, 0, none⟩) 1 1]] W537 := hS539
        have h558 := hr520.le le529
        have h559 := h558.le le541
        have q := hS553.freezeRR (R := rl22) (k := 1) rfl h559 rfl (by decide)
        obtain ⟨φ554, le555, hs556, hS557⟩ := q
        have hS560 : St ⟨w, [], φ⟩ φ554 [.row (some ⟨b538, 0, none⟩) 3 23 1 [.slice none 0 0, .slice A77 x68.length c78, .slice (some ⟨b533, 0, none⟩) 1 1]] W537 := hS557
        have h565 := hr552.le le555
        have q := hS560.freezeRR (R := rl23) (k := 0) rfl h565 rfl (by decide)
        obtain ⟨φ561, le562, hs563, hS564⟩ := q
        have hS566 : St ⟨w, [], φ⟩ φ561 [] W537 := hS564
        have h567 := hs556.le le562
        have q := bnd hm524
        obtain ⟨⟨x568, x569⟩, h570, hm571⟩ := q
        try dsimp only at hm571
        refine OKS.callH 0 rfl rfl rfl rfl (Enters.mk rfl rfl Try.call22 (mapcons rfl (mapcons rfl mapnil)) rfl) hS566 (fun hs => w_target_Due [[0], x53, [1]] (some ⟨b502, 0, none⟩) 3 [[], x68, [(⟨0, 0, x522⟩ : T_target_Sheet)]] (some ⟨b538, 0, none⟩) 3 W537 φ561 hs h567 hs563 h570) (.inr rfl) ?_
        rintro φ572 L573 v574 W575 le576 hS577 ⟨A578, c579, rfl, rfl⟩
        have hS581 : St ⟨w, [], φ⟩ φ572 [.row A578 c579 3 1 (List.flatMap encI x568)] W575 := hS577
        refine OKS.rm rfl rfl rfl rfl rfl rfl ?_
        refine OKS.r rfl rfl rfl rfl (fun _ => Runs.ext rfl rfl (v := .slice A578 x568.length c579) rfl) ?_
        refine OKS.r rfl rfl rfl rfl (fun _ => Runs.ext rfl rfl (v := .int .i64 x569) rfl) ?_
        refine OKS.ra rfl rfl rfl rfl rfl rfl ?_
        refine OKS.ra rfl rfl rfl rfl rfl rfl ?_
        refine OKS.e ?_
        refine thenQ_n ?_
        refine CK.seq ?_
        refine CK.reg (ks := []) (.fx 0 (.fl 1 (.nil)) .stop) rfl ?_
        refine OKS.buildSlice (pv := [(0, .int .i64 2)]) (zs := [.int .i64 0]) (cs := [.int .i64 2]) rfl rfl rfl rfl rfl (mapcons2 rfl mapnil2) Try.runUnderlying22 Try.sizeOf3 Try.zeroValue3 rfl rfl rfl rfl rfl hS581 ?_
        intro W582 b583 hS584
        have hS586 : St ⟨w, [], φ⟩ φ572 [.row (some ⟨b583, 0, none⟩) 1 3 1 (List.flatMap encI [2]), .row A578 c579 3 1 (List.flatMap encI x568)] W582 := hS584
        refine OKS.ra rfl rfl rfl rfl rfl rfl ?_
        refine OKS.e ?_
        refine thenQ_n ?_
        refine CK.seq ?_
        refine CK.seq ?_
        refine CK.reg (ks := []) (.fl 0 (.nil)) rfl ?_
        refine OKS.rm rfl rfl rfl rfl rfl f488 ?_
        refine OKS.e ?_
        refine thenQ_n ?_
        by_cases c587 : x147 = true
        ·have hm588 := hm571; rw [if_pos c587] at hm588; replace c587 := Hid.mk c587
         refine CK.condT (congrArg Value.bool c587.out) ?_
         refine CK.reg (ks := []) (.fx 0 (.fl 1 (.nil)) .stop) rfl ?_
         refine OKS.buildSlice (pv := [(0, .int .i64 1), (1, .int .i64 2)]) (zs := [.int .i64 0, .int .i64 0]) (cs := [.int .i64 1, .int .i64 2]) rfl rfl rfl rfl rfl (mapcons2 rfl (mapcons2 rfl mapnil2)) Try.runUnderlying22 Try.sizeOf3 Try.zeroValue3 rfl rfl rfl rfl rfl hS586 ?_
         intro W589 b590 hS591
         have hS593 : St ⟨w, [], φ⟩ φ572 [.row (some ⟨b590, 0, none⟩) 2 3 1 (List.flatMap encI [1, 2]), .row (some ⟨b583, 0, none⟩) 1 3 1 (List.flatMap encI [2]), .row A578 c579 3 1 (List.flatMap encI x568)] W589 := hS591
         refine OKS.ra rfl rfl rfl rfl rfl rfl ?_
         refine OKS.e ?_
         refine thenQ_n ?_
         refine CK.seq ?_
         refine CK.seq ?_
         refine CK.reg (ks := []) (.fl 0 (.fl 1 (.nil))) rfl ?_
         refine OKS.rm rfl rfl rfl rfl rfl f489 ?_
         refine OKS.r rfl rfl rfl rfl (fun _ => Runs.neq rfl rfl rfl) ?_
         refine OKS.e ?_
         refine thenQ_n ?_
         by_cases c594 : x148 = 0
         ·have hm595 := hm588; rw [if_pos c594] at hm595; replace c594 := Hid.mk c594
          refine CK.condF (decF (fun h => h c594.out)) ?_
          refine CK.skip ?_
          refine thenQ_n ?_
          refine CK.seq ?_
          refine CK.seq ?_
          refine CK.reg (ks := []) (.fl 0 (.fl 1 (.fl 2 (.fl 3 (.fl 4 (.fl 5 (.fx 6 (.fl 7 (.fl 8 (.nil))) .stop))))))) rfl ?_
          refine OKS.rm rfl rfl rfl rfl rfl rfl ?_
          refine OKS.rm rfl rfl rfl rfl rfl f489 ?_
          refine OKS.r rfl rfl rfl rfl (fun _ => Runs.neq rfl rfl rfl) ?_
          refine OKS.rm rfl rfl rfl rfl rfl rfl ?_
          by_cases c596 : x569 = x148
          ·have hm597 := hm595; rw [if_pos c596] at hm597; replace c596 := Hid.mk c596
           refine OKS.rm rfl rfl rfl (wantedY rfl rfl (decF (fun h => h c596.out))) rfl rfl ?_
           refine OKS.rm rfl rfl rfl (wantedY rfl rfl (decF (fun h => h c596.out))) rfl rfl ?_
           have q := hS593.freezeR (k := 2) (n := x568.length) rfl (flatMap_len (f := encI) (sz := 1) (fun _ => rfl) x568) (by decide)
           obtain ⟨φ598, le599, hs600, hS601⟩ := q
           have hS602 : St ⟨w, [], φ⟩ φ598 [.row (some ⟨b590, 0, none⟩) 2 3 1 (List.flatMap encI [1, 2]), .row (some ⟨b583, 0, none⟩) 1 3 1 (List.flatMap encI [2])] W589 := hS601
           have q := hS602.freezeR (k := 0) (n := [1, 2].length) rfl (flatMap_len (f := encI) (sz := 1) (fun _ => rfl) [1, 2]) (by decide)
           obtain ⟨φ603, le604, hs605, hS606⟩ := q
           have hS607 : St ⟨w, [], φ⟩ φ603 [.row (some ⟨b583, 0, none⟩) 1 3 1 (List.flatMap encI [2])] W589 := hS606
           have h608 := hs600.le le604
           have q := bnd hm597
           obtain ⟨x609, h610, hm611⟩ := q
           refine OKS.callH 0 rfl rfl rfl (wantedY rfl rfl (decF (fun h => h c596.out))) (Enters.mk rfl rfl Try.call24 (mapcons rfl (mapcons rfl mapnil)) rfl) hS607 (fun hs => w_klisterkit_Equal_int x568 A578 c579 [1, 2] (some ⟨b590, 0, none⟩) 2 W589 φ603 hs h608 hs605 h610) (.inr rfl) ?_
           rintro φ612 L613 v614 W615 le616 hS617 ⟨rfl, rfl⟩
           have hS618 : St ⟨w, [], φ⟩ φ612 [.row (some ⟨b583, 0, none⟩) 1 3 1 (List.flatMap encI [2])] W615 := hS617
           refine OKS.r rfl rfl rfl (wantedY rfl rfl (decF (fun h => h c596.out))) (fun _ => Runs.notT rfl rfl) ?_
           refine OKS.r rfl rfl rfl rfl (fun _ => Runs.pickF rfl (decF (fun h => h c596.out)) rfl) ?_
           refine OKS.e ?_
           refine thenQ_n ?_
           by_cases c619 : x609 = true
           ·have hm620 := hm611; rw [if_pos c619] at hm620; replace c619 := Hid.mk c619
            refine CK.condF (congrArg (fun b => Value.bool (!b)) c619.out) ?_
            refine CK.skip ?_
            refine thenQ_n ?_
            refine CK.seq ?_
            refine CK.fresh fun σ621 hσ622 => ?_
            have f623 : σ621 0 = .slice pA0 p0.length pc0 := (hσ622 0).trans f482
            have f624 : σ621 1 = .slice pA1 p1.length pc1 := (hσ622 1).trans f483
            have f625 : σ621 2 = .slice pA2 p2.length pc2 := (hσ622 2).trans f484
            have f626 : σ621 7 = .slice A62 x53.length c63 := (hσ622 7).trans f485
            have f627 : σ621 8 = .slice A77 x68.length c78 := (hσ622 8).trans f486
            have f628 : σ621 9 = .slice A93 x84.length c94 := (hσ622 9).trans f487
            clear hσ622
            refine CK.reg (ks := []) (.fl 0 (.fl 1 (.fx 2 (.fl 3 (.fl 4 (.fl 5 (.fx 6 (.fl 7 (.fl 8 (.fl 9 (.fl 10 (.fx 11 (.fl 12 (.fl 13 (.fx 14 (.fl 15 (.fl 16 (.nil))) .stop))) .stop))))) .stop)))) .stop))) rfl ?_
            refine OKS.rm rfl rfl rfl rfl rfl f626 ?_
            refine OKS.rm rfl rfl rfl rfl rfl f623 ?_
            have h629 := h518.le le529
            have h630 := h629.le le541
            have h631 := h630.le le555
            have h632 := h631.le le562
            have h633 := h632.le le576
            have h634 := h633.le le599
            have h635 := h634.le le604
            have h636 := h635.le le616
            have h637 := h230.le le244
            have h638 := h637.le le267
            have h639 := h638.le le480
            have h640 := h639.le le505
            have h641 := h640.le le510
            have h642 := h641.le le529
            have h643 := h642.le le541
            have h644 := h643.le le555
            have h645 := h644.le le562
            have h646 := h645.le le576
            have h647 := h646.le le599
            have h648 := h647.le le604
            have h649 := h648.le le616
            have q := bnd hm620
            obtain ⟨x650, h651, hm652⟩ := q
            refine OKS.callH 0 rfl rfl rfl rfl (Enters.mk rfl rfl Try.call24 (mapcons rfl (mapcons rfl mapnil)) rfl) hS618 (fun hs => w_klisterkit_Equal_int x53 A62 c63 p0 pA0 pc0 W615 φ612 hs h636 h649 h651) (.inr rfl) ?_
            rintro φ653 L654 v655 W656 le657 hS658 ⟨rfl, rfl⟩
            have hS659 : St ⟨w, [], φ⟩ φ653 [.row (some ⟨b583, 0, none⟩) 1 3 1 (List.flatMap encI [2])] W656 := hS658
            refine OKS.rm rfl rfl rfl rfl rfl rfl ?_
            by_cases c660 : x650 = true
            ·have hm661 := hm652; rw [if_pos c660] at hm661; replace c660 := Hid.mk c660
             refine OKS.rm rfl rfl rfl (wantedY rfl rfl (congrArg Value.bool c660.out)) rfl f627 ?_
             refine OKS.rm rfl rfl rfl (wantedY rfl rfl (congrArg Value.bool c660.out)) rfl f624 ?_
             have h662 := h551.le le555
             have h663 := h662.le le562
             have h664 := h663.le le576
             have h665 := h664.le le599
             have h666 := h665.le le604
             have h667 := h666.le le616
             have h668 := h667.le le657
             have h669 := h98.le le106
             have h670 := h669.le le113
             have h671 := h670.le le118
             have h672 := h671.le le131
             have h673 := h672.le le135
             have h674 := h673.le le155
             have h675 := h674.le le163
             have h676 := h675.le le183
             have h677 := h676.le le215
             have h678 := h677.le le222
             have h679 := h678.le le244
             have h680 := h679.le le267
             have h681 := h680.le le480
             have h682 := h681.le le505
             have h683 := h682.le le510
             have h684 := h683.le le529
             have h685 := h684.le le541
             have h686 := h685.le le555
             have h687 := h686.le le562
             have h688 := h687.le le576
             have h689 := h688.le le599
             have h690 := h689.le le604
             have h691 := h690.le le616
             have h692 := h691.le le657
             have q := bnd hm661
             obtain ⟨x693, h694, hm695⟩ := q
             refine OKS.callH 0 rfl rfl rfl (wantedY rfl rfl (congrArg Value.bool c660.out)) (Enters.mk rfl rfl Try.call25 (mapcons rfl (mapcons rfl mapnil)) rfl) hS659 (fun hs => w_klisterkit_Equal_target_Sheet x68 A77 c78 p1 pA1 pc1 W656 φ653 hs h668 h692 h694) (.inr rfl) ?_
             rintro φ696 L697 v698 W699 le700 hS701 ⟨rfl, rfl⟩
             have hS702 : St ⟨w, [], φ⟩ φ696 [.row (some ⟨b583, 0, none⟩) 1 3 1 (List.flatMap encI [2])] W699 := hS701
             refine OKS.r rfl rfl rfl rfl (fun _ => Runs.pickT rfl (congrArg Value.bool c660.out) rfl) ?_
             refine OKS.rm rfl rfl rfl rfl rfl rfl ?_
             by_cases c703 : x693 = true
             ·have hm704 := hm695; rw [if_pos c703] at hm704; replace c703 := Hid.mk c703
              refine OKS.rm rfl rfl rfl (wantedY rfl rfl (congrArg Value.bool c703.out)) rfl f628 ?_
              refine OKS.rm rfl rfl rfl (wantedY rfl rfl (congrArg Value.bool c703.out)) rfl f625 ?_
              have h705 := hs164.le le183
              have h706 := h705.le le215
              have h707 := h706.le le222
              have h708 := h707.le le244
              have h709 := h708.le le267
              have h710 := h709.le le480
              have h711 := h710.le le505
              have h712 := h711.le le510
              have h713 := h712.le le529
              have h714 := h713.le le541
              have h715 := h714.le le555
              have h716 := h715.le le562
              have h717 := h716.le le576
              have h718 := h717.le le599
              have h719 := h718.le le604
              have h720 := h719.le le616
              have h721 := h720.le le657
              have h722 := h721.le le700
              have h723 := h207.le le215
              have h724 := h723.le le222
              have h725 := h724.le le244
              have h726 := h725.le le267
              have h727 := h726.le le480
              have h728 := h727.le le505
              have h729 := h728.le le510
              have h730 := h729.le le529
              have h731 := h730.le le541
              have h732 := h731.le le555
              have h733 := h732.le le562
              have h734 := h733.le le576
              have h735 := h734.le le599
              have h736 := h735.le le604
              have h737 := h736.le le616
              have h738 := h737.le le657
              have h739 := h738.le le700
              have q := bnd hm704
              obtain ⟨x740, h741, hm742⟩ := q
              refine OKS.callH 0 rfl rfl rfl (wantedY rfl rfl (congrArg Value.bool c703.out)) (Enters.mk rfl rfl Try.call26 (mapcons rfl (mapcons rfl mapnil)) rfl) hS702 (fun hs => w_klisterkit_Equal_target_Step x84 A93 c94 p2 pA2 pc2 W699 φ696 hs h722 h739 h741) (.inr rfl) ?_
              rintro φ743 L744 v745 W746 le747 hS748 ⟨rfl, rfl⟩
              have hS749 : St ⟨w, [], φ⟩ φ743 [.row (some ⟨b583, 0, none⟩) 1 3 1 (List.flatMap encI [2])] W746 := hS748
              refine OKS.r rfl rfl rfl rfl (fun _ => Runs.pickT rfl (congrArg Value.bool c703.out) rfl) ?_
              refine OKS.rm rfl rfl rfl rfl rfl rfl ?_
              by_cases c750 : x740 = true
              ·have hm751 := hm742; rw [if_pos c750] at hm751; replace c750 := Hid.mk c750
               have q := bnd hm751
               obtain ⟨x752, h753, hm754⟩ := q
               refine OKS.callH 0 rfl rfl rfl (wantedY rfl rfl (congrArg Value.bool c750.out)) (Enters.mk rfl rfl Try.call10 mapnil rfl) hS749 (fun hs => w_klisterlaw03_awake W746 φ743 hs h753) (.inr rfl) ?_
               rintro φ755 L756 v757 W758 le759 hS760 ⟨rfl, rfl⟩
               have hS761 : St ⟨w, [], φ⟩ φ755 [.row (some ⟨b583, 0, none⟩) 1 3 1 (List.flatMap encI [2])] W758 := hS760
               refine OKS.r rfl rfl rfl rfl (fun _ => Runs.pickT rfl (congrArg Value.bool c750.out) rfl) ?_
               refine OKS.ra rfl rfl rfl rfl rfl rfl ?_
               refine OKS.e ?_
               refine thenQ_n ?_
               refine CK.ret ?_
               cases hm754
               exact ⟨rfl, _, (res1 rfl), φ755, _, (hS761.pick [] _ (by decide) rfl), rfl, rfl⟩
              ·have hm762 := hm742; rw [if_neg c750] at hm762; replace c750 := Hid.mk c750
               refine OKS.px rfl rfl rfl (wantedN rfl rfl (congrArg Value.bool (Bool.eq_false_iff.2 c750.out)) rfl) ?_
               refine OKS.r rfl rfl rfl rfl (fun _ => Runs.pickF rfl (congrArg Value.bool (Bool.eq_false_iff.2 c750.out)) rfl) ?_
               refine OKS.ra rfl rfl rfl rfl rfl rfl ?_
               refine OKS.e ?_
               refine thenQ_n ?_
               refine CK.ret ?_
               cases hm762
               exact ⟨rfl, _, (res1 rfl), φ743, _, (hS749.pick [] _ (by decide) rfl), rfl, rfl⟩
             ·have hm763 := hm695; rw [if_neg c703] at hm763; replace c703 := Hid.mk c703
              refine OKS.p rfl rfl rfl (wantedN rfl rfl (congrArg Value.bool (Bool.eq_false_iff.2 c703.out)) rfl) ?_
              refine OKS.p rfl rfl rfl (wantedN rfl rfl (congrArg Value.bool (Bool.eq_false_iff.2 c703.out)) rfl) ?_
              refine OKS.px rfl rfl rfl (wantedN rfl rfl (congrArg Value.bool (Bool.eq_false_iff.2 c703.out)) rfl) ?_
              refine OKS.r rfl rfl rfl rfl (fun _ => Runs.pickF rfl (congrArg Value.bool (Bool.eq_false_iff.2 c703.out)) rfl) ?_
              refine OKS.rm rfl rfl rfl rfl rfl rfl ?_
              refine OKS.px rfl rfl rfl (wantedN rfl rfl rfl rfl) ?_
              refine OKS.r rfl rfl rfl rfl (fun _ => Runs.pickF rfl rfl rfl) ?_
              refine OKS.ra rfl rfl rfl rfl rfl rfl ?_
              refine OKS.e ?_
              refine thenQ_n ?_
              refine CK.ret ?_
              cases hm763
              exact ⟨rfl, _, (res1 rfl), φ696, _, (hS702.pick [] _ (by decide) rfl), rfl, rfl⟩
            ·have hm764 := hm652; rw [if_neg c660] at hm764; replace c660 := Hid.mk c660
             refine OKS.p rfl rfl rfl (wantedN rfl rfl (congrArg Value.bool (Bool.eq_false_iff.2 c660.out)) rfl) ?_
             refine OKS.p rfl rfl rfl (wantedN rfl rfl (congrArg Value.bool (Bool.eq_false_iff.2 c660.out)) rfl) ?_
             refine OKS.px rfl rfl rfl (wantedN rfl rfl (congrArg Value.bool (Bool.eq_false_iff.2 c660.out)) rfl) ?_
             refine OKS.r rfl rfl rfl rfl (fun _ => Runs.pickF rfl (congrArg Value.bool (Bool.eq_false_iff.2 c660.out)) rfl) ?_
             refine OKS.rm rfl rfl rfl rfl rfl rfl ?_
             refine OKS.p rfl rfl rfl (wantedN rfl rfl rfl rfl) ?_
             refine OKS.p rfl rfl rfl (wantedN rfl rfl rfl rfl) ?_
             refine OKS.px rfl rfl rfl (wantedN rfl rfl rfl rfl) ?_
             refine OKS.r rfl rfl rfl rfl (fun _ => Runs.pickF rfl rfl rfl) ?_
             refine OKS.rm rfl rfl rfl rfl rfl rfl ?_
             refine OKS.px rfl rfl rfl (wantedN rfl rfl rfl rfl) ?_
             refine OKS.r rfl rfl rfl rfl (fun _ => Runs.pickF rfl rfl rfl) ?_
             refine OKS.ra rfl rfl rfl rfl rfl rfl ?_
             refine OKS.e ?_
             refine thenQ_n ?_
             refine CK.ret ?_
             cases hm764
             exact ⟨rfl, _, (res1 rfl), φ653, _, (hS659.pick [] _ (by decide) rfl), rfl, rfl⟩
           ·have hm765 := hm611; rw [if_neg c619] at hm765; replace c619 := Hid.mk c619
            refine CK.condT (congrArg (fun b => Value.bool (!b)) (Bool.eq_false_iff.2 c619.out)) ?_
            refine CK.seq ?_
            refine CK.reg (ks := []) (.fl 0 (.nil)) rfl ?_
            refine OKS.ra rfl rfl rfl rfl rfl rfl ?_
            refine OKS.e ?_
            refine thenQ_n ?_
            refine CK.ret ?_
            refine thenQ_r ?_
            cases hm765
            exact ⟨rfl, _, (res1 rfl), φ612, _, (hS618.pick [] _ (by decide) rfl), rfl, rfl⟩
          ·have hm766 := hm595; rw [if_neg c596] at hm766; replace c596 := Hid.mk c596
           refine OKS.p rfl rfl rfl (wantedN rfl rfl (decT c596.out) rfl) ?_
           refine OKS.p rfl rfl rfl (wantedN rfl rfl (decT c596.out) rfl) ?_
           refine OKS.px rfl rfl rfl (wantedN rfl rfl (decT c596.out) rfl) ?_
           refine OKS.p rfl rfl rfl (wantedN rfl rfl (decT c596.out) rfl) ?_
           refine OKS.r rfl rfl rfl rfl (fun _ => Runs.pickT rfl (decT c596.out) rfl) ?_
           refine OKS.e ?_
           refine thenQ_n ?_
           refine CK.condT rfl ?_
           refine CK.seq ?_
           refine CK.reg (ks := []) (.fl 0 (.nil)) rfl ?_
           refine OKS.ra rfl rfl rfl rfl rfl rfl ?_
           refine OKS.e ?_
           refine thenQ_n ?_
           refine CK.ret ?_
           refine thenQ_r ?_
           cases hm766
           exact ⟨rfl, _, (res1 rfl), φ572, _, (hS593.pick [] _ (by decide) rfl), rfl, rfl⟩
         ·have hm767 := hm588; rw [if_neg c594] at hm767; replace c594 := Hid.mk c594
          refine CK.condT (decT c594.out) ?_
          refine CK.reg (ks := []) (.fl 0 (.nil)) rfl ?_
          refine OKS.ra rfl rfl rfl rfl rfl rfl ?_
          refine OKS.e ?_
          refine thenQ_n ?_
          refine CK.seq ?_
          refine CK.seq ?_
          refine CK.reg (ks := []) (.fl 0 (.fl 1 (.fl 2 (.fl 3 (.fl 4 (.fl 5 (.fx 6 (.fl 7 (.fl 8 (.nil))) .stop))))))) rfl ?_
          refine OKS.rm rfl rfl rfl rfl rfl rfl ?_
          refine OKS.rm rfl rfl rfl rfl rfl f489 ?_
          refine OKS.r rfl rfl rfl rfl (fun _ => Runs.neq rfl rfl rfl) ?_
          refine OKS.rm rfl rfl rfl rfl rfl rfl ?_
          by_cases c768 : x569 = x148
          ·have hm769 := hm767; rw [if_pos c768] at hm769; replace c768 := Hid.mk c768
           refine OKS.rm rfl rfl rfl (wantedY rfl rfl (decF (fun h => h c768.out))) rfl rfl ?_
           refine OKS.rm rfl rfl rfl (wantedY rfl rfl (decF (fun h => h c768.out))) rfl rfl ?_
           have q := hS593.freezeR (k := 2) (n := x568.length) rfl (flatMap_len (f := encI) (sz := 1) (fun _ => rfl) x568) (by decide)
           obtain ⟨φ770, le771, hs772, hS773⟩ := q
           have hS774 : St ⟨w, [], φ⟩ φ770 [.row (some ⟨b590, 0, none⟩) 2 3 1 (List.flatMap encI [1, 2]), .row (some ⟨b583, 0, none⟩) 1 3 1 (List.flatMap encI [2])] W589 := hS773
           have q := bnd hm769
           obtain ⟨x775, h776, hm777⟩ := q
           refine OKS.callH 0 rfl rfl rfl (wantedY rfl rfl (decF (fun h => h c768.out))) (Enters.mk rfl rfl Try.call24 (mapcons rfl (mapcons rfl mapnil)) rfl) hS774 (fun hs => w_klisterkit_Equal_int x568 A578 c579 [] none 0 W589 φ770 hs hs772 (by first | exact Sl.nil _ _ _ _ | exact SlR.nil) h776) (.inr rfl) ?_
           rintro φ778 L779 v780 W781 le782 hS783 ⟨rfl, rfl⟩
           have hS784 : St ⟨w, [], φ⟩ φ778 [.row (some ⟨b590, 0, none⟩) 2 3 1 (List.flatMap encI [1, 2]), .row (some ⟨b583, 0, none⟩) 1 3 1 (List.flatMap encI [2])] W781 := hS783
           refine OKS.r rfl rfl rfl (wantedY rfl rfl (decF (fun h => h c768.out))) (fun _ => Runs.notT rfl rfl) ?_
           refine OKS.r rfl rfl rfl rfl (fun _ => Runs.pickF rfl (decF (fun h => h c768.out)) rfl) ?_
           refine OKS.e ?_
           refine thenQ_n ?_
           by_cases c785 : x775 = true
           ·have hm786 := hm777; rw [if_pos c785] at hm786; replace c785 := Hid.mk c785
            refine CK.condF (congrArg (fun b => Value.bool (!b)) c785.out) ?_
            refine CK.skip ?_
            refine thenQ_n ?_
            refine CK.seq ?_
            refine CK.fresh fun σ787 hσ788 => ?_
            have f789 : σ787 0 = .slice pA0 p0.length pc0 := (hσ788 0).trans f482
            have f790 : σ787 1 = .slice pA1 p1.length pc1 := (hσ788 1).trans f483
            have f791 : σ787 2 = .slice pA2 p2.length pc2 := (hσ788 2).trans f484
            have f792 : σ787 7 = .slice A62 x53.length c63 := (hσ788 7).trans f485
            have f793 : σ787 8 = .slice A77 x68.length c78 := (hσ788 8).trans f486
            have f794 : σ787 9 = .slice A93 x84.length c94 := (hσ788 9).trans f487
            clear hσ788
            refine CK.reg (ks := []) (.fl 0 (.fl 1 (.fx 2 (.fl 3 (.fl 4 (.fl 5 (.fx 6 (.fl 7 (.fl 8 (.fl 9 (.fl 10 (.fx 11 (.fl 12 (.fl 13 (.fx 14 (.fl 15 (.fl 16 (.nil))) .stop))) .stop))))) .stop)))) .stop))) rfl ?_
            refine OKS.rm rfl rfl rfl rfl rfl f792 ?_
            refine OKS.rm rfl rfl rfl rfl rfl f789 ?_
            have h795 := h518.le le529
            have h796 := h795.le le541
            have h797 := h796.le le555
            have h798 := h797.le le562
            have h799 := h798.le le576
            have h800 := h799.le le771
            have h801 := h800.le le782
            have h802 := h230.le le244
            have h803 := h802.le le267
            have h804 := h803.le le480
            have h805 := h804.le le505
            have h806 := h805.le le510
            have h807 := h806.le le529
            have h808 := h807.le le541
            have h809 := h808.le le555
            have h810 := h809.le le562
            have h811 := h810.le le576
            have h812 := h811.le le771
            have h813 := h812.le le782
            have q := bnd hm786
            obtain ⟨x814, h815, hm816⟩ := q
            refine OKS.callH 0 rfl rfl rfl rfl (Enters.mk rfl rfl Try.call24 (mapcons rfl (mapcons rfl mapnil)) rfl) hS784 (fun hs => w_klisterkit_Equal_int x53 A62 c63 p0 pA0 pc0 W781 φ778 hs h801 h813 h815) (.inr rfl) ?_
            rintro φ817 L818 v819 W820 le821 hS822 ⟨rfl, rfl⟩
            have hS823 : St ⟨w, [], φ⟩ φ817 [.row (some ⟨b590, 0, none⟩) 2 3 1 (List.flatMap encI [1, 2]), .row (some ⟨b583, 0, none⟩) 1 3 1 (List.flatMap encI [2])] W820 := hS822
            refine OKS.rm rfl rfl rfl rfl rfl rfl ?_
            by_cases c824 : x814 = true
            ·have hm825 := hm816; rw [if_pos c824] at hm825; replace c824 := Hid.mk c824
             refine OKS.rm rfl rfl rfl (wantedY rfl rfl (congrArg Value.bool c824.out)) rfl f793 ?_
             refine OKS.rm rfl rfl rfl (wantedY rfl rfl (congrArg Value.bool c824.out)) rfl f790 ?_
             have h826 := h551.le le555
             have h827 := h826.le le562
             have h828 := h827.le le576
             have h829 := h828.le le771
             have h830 := h829.le le782
             have h831 := h830.le le821
             have h832 := h98.le le106
             have h833 := h832.le le113
             have h834 := h833.le le118
             have h835 := h834.le le131
             have h836 := h835.le le135
             have h837 := h836.le le155
             have h838 := h837.le le163
             have h839 := h838.le le183
             have h840 := h839.le le215
             have h841 := h840.le le222
             have h842 := h841.le le244
             have h843 := h842.le le267
             have h844 := h843.le le480
             have h845 := h844.le le505
             have h846 := h845.le le510
             have h847 := h846.le le529
             have h848 := h847.le le541
             have h849 := h848.le le555
             have h850 := h849.le le562
             have h851 := h850.le le576
             have h852 := h851.le le771
             have h853 := h852.le le782
             have h854 := h853.le le821
             have q := bnd hm825
             obtain ⟨x855, h856, hm857⟩ := q
             refine OKS.callH 0 rfl rfl rfl (wantedY rfl rfl (congrArg Value.bool c824.out)) (Enters.mk rfl rfl Try.call25 (mapcons rfl (mapcons rfl mapnil)) rfl) hS823 (fun hs => w_klisterkit_Equal_target_Sheet x68 A77 c78 p1 pA1 pc1 W820 φ817 hs h831 h854 h856) (.inr rfl) ?_
             rintro φ858 L859 v860 W861 le862 hS863 ⟨rfl, rfl⟩
             have hS864 : St ⟨w, [], φ⟩ φ858 [.row (some ⟨b590, 0, none⟩) 2 3 1 (List.flatMap encI [1, 2]), .row (some ⟨b583, 0, none⟩) 1 3 1 (List.flatMap encI [2])] W861 := hS863
             refine OKS.r rfl rfl rfl rfl (fun _ => Runs.pickT rfl (congrArg Value.bool c824.out) rfl) ?_
             refine OKS.rm rfl rfl rfl rfl rfl rfl ?_
             by_cases c865 : x855 = true
             ·have hm866 := hm857; rw [if_pos c865] at hm866; replace c865 := Hid.mk c865
              refine OKS.rm rfl rfl rfl (wantedY rfl rfl (congrArg Value.bool c865.out)) rfl f794 ?_
              refine OKS.rm rfl rfl rfl (wantedY rfl rfl (congrArg Value.bool c865.out)) rfl f791 ?_
              have h867 := hs164.le le183
              have h868 := h867.le le215
              have h869 := h868.le le222
              have h870 := h869.le le244
              have h871 := h870.le le267
              have h872 := h871.le le480
              have h873 := h872.le le505
              have h874 := h873.le le510
              have h875 := h874.le le529
              have h876 := h875.le le541
              have h877 := h876.le le555
              have h878 := h877.le le562
              have h879 := h878.le le576
              have h880 := h879.le le771
              have h881 := h880.le le782
              have h882 := h881.le le821
              have h883 := h882.le le862
              have h884 := h207.le le215
              have h885 := h884.le le222
              have h886 := h885.le le244
              have h887 := h886.le le267
              have h888 := h887.le le480
              have h889 := h888.le le505
              have h890 := h889.le le510
              have h891 := h890.le le529
              have h892 := h891.le le541
              have h893 := h892.le le555
              have h894 := h893.le le562
              have h895 := h894.le le576
              have h896 := h895.le le771
              have h897 := h896.le le782
              have h898 := h897.le le821
              have h899 := h898.le le862
              have q := bnd hm866
              obtain ⟨x900, h901, hm902⟩ := q
              refine OKS.callH 0 rfl rfl rfl (wantedY rfl rfl (congrArg Value.bool c865.out)) (Enters.mk rfl rfl Try.call26 (mapcons rfl (mapcons rfl mapnil)) rfl) hS864 (fun hs => w_klisterkit_Equal_target_Step x84 A93 c94 p2 pA2 pc2 W861 φ858 hs h883 h899 h901) (.inr rfl) ?_
              rintro φ903 L904 v905 W906 le907 hS908 ⟨rfl, rfl⟩
              have hS909 : St ⟨w, [], φ⟩ φ903 [.row (some ⟨b590, 0, none⟩) 2 3 1 (List.flatMap encI [1, 2]), .row (some ⟨b583, 0, none⟩) 1 3 1 (List.flatMap encI [2])] W906 := hS908
              refine OKS.r rfl rfl rfl rfl (fun _ => Runs.pickT rfl (congrArg Value.bool c865.out) rfl) ?_
              refine OKS.rm rfl rfl rfl rfl rfl rfl ?_
              by_cases c910 : x900 = true
              ·have hm911 := hm902; rw [if_pos c910] at hm911; replace c910 := Hid.mk c910
               have q := bnd hm911
               obtain ⟨x912, h913, hm914⟩ := q
               refine OKS.callH 0 rfl rfl rfl (wantedY rfl rfl (congrArg Value.bool c910.out)) (Enters.mk rfl rfl Try.call10 mapnil rfl) hS909 (fun hs => w_klisterlaw03_awake W906 φ903 hs h913) (.inr rfl) ?_
               rintro φ915 L916 v917 W918 le919 hS920 ⟨rfl, rfl⟩
               have hS921 : St ⟨w, [], φ⟩ φ915 [.row (some ⟨b590, 0, none⟩) 2 3 1 (List.flatMap encI [1, 2]), .row (some ⟨b583, 0, none⟩) 1 3 1 (List.flatMap encI [2])] W918 := hS920
               refine OKS.r rfl rfl rfl rfl (fun _ => Runs.pickT rfl (congrArg Value.bool c910.out) rfl) ?_
               refine OKS.ra rfl rfl rfl rfl rfl rfl ?_
               refine OKS.e ?_
               refine thenQ_n ?_
               refine CK.ret ?_
               cases hm914
               exact ⟨rfl, _, (res1 rfl), φ915, _, (hS921.pick [] _ (by decide) rfl), rfl, rfl⟩
              ·have hm922 := hm902; rw [if_neg c910] at hm922; replace c910 := Hid.mk c910
               refine OKS.px rfl rfl rfl (wantedN rfl rfl (congrArg Value.bool (Bool.eq_false_iff.2 c910.out)) rfl) ?_
               refine OKS.r rfl rfl rfl rfl (fun _ => Runs.pickF rfl (congrArg Value.bool (Bool.eq_false_iff.2 c910.out)) rfl) ?_
               refine OKS.ra rfl rfl rfl rfl rfl rfl ?_
               refine OKS.e ?_
               refine thenQ_n ?_
               refine CK.ret ?_
               cases hm922
               exact ⟨rfl, _, (res1 rfl), φ903, _, (hS909.pick [] _ (by decide) rfl), rfl, rfl⟩
             ·have hm923 := hm857; rw [if_neg c865] at hm923; replace c865 := Hid.mk c865
              refine OKS.p rfl rfl rfl (wantedN rfl rfl (congrArg Value.bool (Bool.eq_false_iff.2 c865.out)) rfl) ?_
              refine OKS.p rfl rfl rfl (wantedN rfl rfl (congrArg Value.bool (Bool.eq_false_iff.2 c865.out)) rfl) ?_
              refine OKS.px rfl rfl rfl (wantedN rfl rfl (congrArg Value.bool (Bool.eq_false_iff.2 c865.out)) rfl) ?_
              refine OKS.r rfl rfl rfl rfl (fun _ => Runs.pickF rfl (congrArg Value.bool (Bool.eq_false_iff.2 c865.out)) rfl) ?_
              refine OKS.rm rfl rfl rfl rfl rfl rfl ?_
              refine OKS.px rfl rfl rfl (wantedN rfl rfl rfl rfl) ?_
              refine OKS.r rfl rfl rfl rfl (fun _ => Runs.pickF rfl rfl rfl) ?_
              refine OKS.ra rfl rfl rfl rfl rfl rfl ?_
              refine OKS.e ?_
              refine thenQ_n ?_
              refine CK.ret ?_
              cases hm923
              exact ⟨rfl, _, (res1 rfl), φ858, _, (hS864.pick [] _ (by decide) rfl), rfl, rfl⟩
            ·have hm924 := hm816; rw [if_neg c824] at hm924; replace c824 := Hid.mk c824
             refine OKS.p rfl rfl rfl (wantedN rfl rfl (congrArg Value.bool (Bool.eq_false_iff.2 c824.out)) rfl) ?_
             refine OKS.p rfl rfl rfl (wantedN rfl rfl (congrArg Value.bool (Bool.eq_false_iff.2 c824.out)) rfl) ?_
             refine OKS.px rfl rfl rfl (wantedN rfl rfl (congrArg Value.bool (Bool.eq_false_iff.2 c824.out)) rfl) ?_
             refine OKS.r rfl rfl rfl rfl (fun _ => Runs.pickF rfl (congrArg Value.bool (Bool.eq_false_iff.2 c824.out)) rfl) ?_
             refine OKS.rm rfl rfl rfl rfl rfl rfl ?_
             refine OKS.p rfl rfl rfl (wantedN rfl rfl rfl rfl) ?_
             refine OKS.p rfl rfl rfl (wantedN rfl rfl rfl rfl) ?_
             refine OKS.px rfl rfl rfl (wantedN rfl rfl rfl rfl) ?_
             refine OKS.r rfl rfl rfl rfl (fun _ => Runs.pickF rfl rfl rfl) ?_
             refine OKS.rm rfl rfl rfl rfl rfl rfl ?_
             refine OKS.px rfl rfl rfl (wantedN rfl rfl rfl rfl) ?_
             refine OKS.r rfl rfl rfl rfl (fun _ => Runs.pickF rfl rfl rfl) ?_
             refine OKS.ra rfl rfl rfl rfl rfl rfl ?_
             refine OKS.e ?_
             refine thenQ_n ?_
             refine CK.ret ?_
             cases hm924
             exact ⟨rfl, _, (res1 rfl), φ817, _, (hS823.pick [] _ (by decide) rfl), rfl, rfl⟩
           ·have hm925 := hm777; rw [if_neg c785] at hm925; replace c785 := Hid.mk c785
            refine CK.condT (congrArg (fun b => Value.bool (!b)) (Bool.eq_false_iff.2 c785.out)) ?_
            refine CK.seq ?_
            refine CK.reg (ks := []) (.fl 0 (.nil)) rfl ?_
            refine OKS.ra rfl rfl rfl rfl rfl rfl ?_
            refine OKS.e ?_
            refine thenQ_n ?_
            refine CK.ret ?_
            refine thenQ_r ?_
            cases hm925
            exact ⟨rfl, _, (res1 rfl), φ778, _, (hS784.pick [] _ (by decide) rfl), rfl, rfl⟩
          ·have hm926 := hm767; rw [if_neg c768] at hm926; replace c768 := Hid.mk c768
           refine OKS.p rfl rfl rfl (wantedN rfl rfl (decT c768.out) rfl) ?_
           refine OKS.p rfl rfl rfl (wantedN rfl rfl (decT c768.out) rfl) ?_
           refine OKS.px rfl rfl rfl (wantedN rfl rfl (decT c768.out) rfl) ?_
           refine OKS.p rfl rfl rfl (wantedN rfl rfl (decT c768.out) rfl) ?_
           refine OKS.r rfl rfl rfl rfl (fun _ => Runs.pickT rfl (decT c768.out) rfl) ?_
           refine OKS.e ?_
           refine thenQ_n ?_
           refine CK.condT rfl ?_
           refine CK.seq ?_
           refine CK.reg (ks := []) (.fl 0 (.nil)) rfl ?_
           refine OKS.ra rfl rfl rfl rfl rfl rfl ?_
           refine OKS.e ?_
           refine thenQ_n ?_
           refine CK.ret ?_
           refine thenQ_r ?_
           cases hm926
           exact ⟨rfl, _, (res1 rfl), φ572, _, (hS593.pick [] _ (by decide) rfl), rfl, rfl⟩
        ·have hm927 := hm571; rw [if_neg c587] at hm927; replace c587 := Hid.mk c587
         refine CK.condF (congrArg Value.bool (Bool.eq_false_iff.2 c587.out)) ?_
         refine CK.skip ?_
         refine thenQ_n ?_
         refine CK.seq ?_
         refine CK.seq ?_
         refine CK.reg (ks := []) (.fl 0 (.fl 1 (.nil))) rfl ?_
         refine OKS.rm rfl rfl rfl rfl rfl f489 ?_
         refine OKS.r rfl rfl rfl rfl (fun _ => Runs.neq rfl rfl rfl) ?_
         refine OKS.e ?_
         refine thenQ_n ?_
         by_cases c928 : x148 = 0
         ·have hm929 := hm927; rw [if_pos c928] at hm929; replace c928 := Hid.mk c928
          refine CK.condF (decF (fun h => h c928.out)) ?_
          refine CK.skip ?_
          refine thenQ_n ?_
          refine CK.seq ?_
          refine CK.seq ?_
          refine CK.reg (ks := []) (.fl 0 (.fl 1 (.fl 2 (.fl 3 (.fl 4 (.fl 5 (.fx 6 (.fl 7 (.fl 8 (.nil))) .stop))))))) rfl ?_
          refine OKS.rm rfl rfl rfl rfl rfl rfl ?_
          refine OKS.rm rfl rfl rfl rfl rfl f489 ?_
          refine OKS.r rfl rfl rfl rfl (fun _ => Runs.neq rfl rfl rfl) ?_
          refine OKS.rm rfl rfl rfl rfl rfl rfl ?_
          by_cases c930 : x569 = x148
          ·have hm931 := hm929; rw [if_pos c930] at hm931; replace c930 := Hid.mk c930
           refine OKS.rm rfl rfl rfl (wantedY rfl rfl (decF (fun h => h c930.out))) rfl rfl ?_
           refine OKS.rm rfl rfl rfl (wantedY rfl rfl (decF (fun h => h c930.out))) rfl rfl ?_
           have q := hS586.freezeR (k := 1) (n := x568.length) rfl (flatMap_len (f := encI) (sz := 1) (fun _ => rfl) x568) (by decide)
           obtain ⟨φ932, le933, hs934, hS935⟩ := q
           have hS936 : St ⟨w, [], φ⟩ φ932 [.row (some ⟨b583, 0, none⟩) 1 3 1 (List.flatMap encI [2])] W582 := hS935
           have q := hS936.freezeR (k := 0) (n := [2].length) rfl (flatMap_len (f := encI) (sz := 1) (fun _ => rfl) [2]) (by decide)
           obtain ⟨φ937, le938, hs939, hS940⟩ := q
           have hS941 : St ⟨w, [], φ⟩ φ937 [] W582 := hS940
           have h942 := hs934.le le938
           have q := bnd hm931
           obtain ⟨x943, h944, hm945⟩ := q
           refine OKS.callH 0 rfl rfl rfl (wantedY rfl rfl (decF (fun h => h c930.out))) (Enters.mk rfl rfl Try.call24 (mapcons rfl (mapcons rfl mapnil)) rfl) hS941 (fun hs => w_klisterkit_Equal_int x568 A578 c579 [2] (some ⟨b583, 0, none⟩) 1 W582 φ937 hs h942 hs939 h944) (.inr rfl) ?_
           rintro φ946 L947 v948 W949 le950 hS951 ⟨rfl, rfl⟩
           have hS952 : St ⟨w, [], φ⟩ φ946 [] W949 := hS951
           refine OKS.r rfl rfl rfl (wantedY rfl rfl (decF (fun h => h c930.out))) (fun _ => Runs.notT rfl rfl) ?_
           refine OKS.r rfl rfl rfl rfl (fun _ => Runs.pickF rfl (decF (fun h => h c930.out)) rfl) ?_
           refine OKS.e ?_
           refine thenQ_n ?_
           by_cases c953 : x943 = true
           ·have hm954 := hm945; rw [if_pos c953] at hm954; replace c953 := Hid.mk c953
            refine CK.condF (congrArg (fun b => Value.bool (!b)) c953.out) ?_
            refine CK.skip ?_
            refine thenQ_n ?_
            refine CK.seq ?_
            refine CK.fresh fun σ955 hσ956 => ?_
            have f957 : σ955 0 = .slice pA0 p0.length pc0 := (hσ956 0).trans f482
            have f958 : σ955 1 = .slice pA1 p1.length pc1 := (hσ956 1).trans f483
            have f959 : σ955 2 = .slice pA2 p2.length pc2 := (hσ956 2).trans f484
            have f960 : σ955 7 = .slice A62 x53.length c63 := (hσ956 7).trans f485
            have f961 : σ955 8 = .slice A77 x68.length c78 := (hσ956 8).trans f486
            have f962 : σ955 9 = .slice A93 x84.length c94 := (hσ956 9).trans f487
            clear hσ956
            refine CK.reg (ks := []) (.fl 0 (.fl 1 (.fx 2 (.fl 3 (.fl 4 (.fl 5 (.fx 6 (.fl 7 (.fl 8 (.fl 9 (.fl 10 (.fx 11 (.fl 12 (.fl 13 (.fx 14 (.fl 15 (.fl 16 (.nil))) .stop))) .stop))))) .stop)))) .stop))) rfl ?_
            refine OKS.rm rfl rfl rfl rfl rfl f960 ?_
            refine OKS.rm rfl rfl rfl rfl rfl f957 ?_
            have h963 := h518.le le529
            have h964 := h963.le le541
            have h965 := h964.le le555
            have h966 := h965.le le562
            have h967 := h966.le le576
            have h968 := h967.le le933
            have h969 := h968.le le938
            have h970 := h969.le le950
            have h971 := h230.le le244
            have h972 := h971.le le267
            have h973 := h972.le le480
            have h974 := h973.le le505
            have h975 := h974.le le510
            have h976 := h975.le le529
            have h977 := h976.le le541
            have h978 := h977.le le555
            have h979 := h978.le le562
            have h980 := h979.le le576
            have h981 := h980.le le933
            have h982 := h981.le le938
            have h983 := h982.le le950
            have q := bnd hm954
            obtain ⟨x984, h985, hm986⟩ := q
            refine OKS.callH 0 rfl rfl rfl rfl (Enters.mk rfl rfl Try.call24 (mapcons rfl (mapcons rfl mapnil)) rfl) hS952 (fun hs => w_klisterkit_Equal_int x53 A62 c63 p0 pA0 pc0 W949 φ946 hs h970 h983 h985) (.inr rfl) ?_
            rintro φ987 L988 v989 W990 le991 hS992 ⟨rfl, rfl⟩
            have hS993 : St ⟨w, [], φ⟩ φ987 [] W990 := hS992
            refine OKS.rm rfl rfl rfl rfl rfl rfl ?_
            by_cases c994 : x984 = true
            ·have hm995 := hm986; rw [if_pos c994] at hm995; replace c994 := Hid.mk c994
             refine OKS.rm rfl rfl rfl (wantedY rfl rfl (congrArg Value.bool c994.out)) rfl f961 ?_
             refine OKS.rm rfl rfl rfl (wantedY rfl rfl (congrArg Value.bool c994.out)) rfl f958 ?_
             have h996 := h551.le le555
             have h997 := h996.le le562
             have h998 := h997.le le576
             have h999 := h998.le le933
             have h1000 := h999.le le938
             have h1001 := h1000.le le950
             have h1002 := h1001.le le991
             have h1003 := h98.le le106
             have h1004 := h1003.le le113
             have h1005 := h1004.le le118
             have h1006 := h1005.le le131
             have h1007 := h1006.le le135
             have h1008 := h1007.le le155
             have h1009 := h1008.le le163
             have h1010 := h1009.le le183
             have h1011 := h1010.le le215
             have h1012 := h1011.le le222
             have h1013 := h1012.le le244
             have h1014 := h1013.le le267
             have h1015 := h1014.le le480
             have h1016 := h1015.le le505
             have h1017 := h1016.le le510
             have h1018 := h1017.le le529
             have h1019 := h1018.le le541
             have h1020 := h1019.le le555
             have h1021 := h1020.le le562
             have h1022 := h1021.le le576
             have h1023 := h1022.le le933
             have h1024 := h1023.le le938
             have h1025 := h1024.le le950
             have h1026 := h1025.le le991
             have q := bnd hm995
             obtain ⟨x1027, h1028, hm1029⟩ := q
             refine OKS.callH 0 rfl rfl rfl (wantedY rfl rfl (congrArg Value.bool c994.out)) (Enters.mk rfl rfl Try.call25 (mapcons rfl (mapcons rfl mapnil)) rfl) hS993 (fun hs => w_klisterkit_Equal_target_Sheet x68 A77 c78 p1 pA1 pc1 W990 φ987 hs h1002 h1026 h1028) (.inr rfl) ?_
             rintro φ1030 L1031 v1032 W1033 le1034 hS1035 ⟨rfl, rfl⟩
             have hS1036 : St ⟨w, [], φ⟩ φ1030 [] W1033 := hS1035
             refine OKS.r rfl rfl rfl rfl (fun _ => Runs.pickT rfl (congrArg Value.bool c994.out) rfl) ?_
             refine OKS.rm rfl rfl rfl rfl rfl rfl ?_
             by_cases c1037 : x1027 = true
             ·have hm1038 := hm1029; rw [if_pos c1037] at hm1038; replace c1037 := Hid.mk c1037
              refine OKS.rm rfl rfl rfl (wantedY rfl rfl (congrArg Value.bool c1037.out)) rfl f962 ?_
              refine OKS.rm rfl rfl rfl (wantedY rfl rfl (congrArg Value.bool c1037.out)) rfl f959 ?_
              have h1039 := hs164.le le183
              have h1040 := h1039.le le215
              have h1041 := h1040.le le222
              have h1042 := h1041.le le244
              have h1043 := h1042.le le267
              have h1044 := h1043.le le480
              have h1045 := h1044.le le505
              have h1046 := h1045.le le510
              have h1047 := h1046.le le529
              have h1048 := h1047.le le541
              have h1049 := h1048.le le555
              have h1050 := h1049.le le562
              have h1051 := h1050.le le576
              have h1052 := h1051.le le933
              have h1053 := h1052.le le938
              have h1054 := h1053.le le950
              have h1055 := h1054.le le991
              have h1056 := h1055.le le1034
              have h1057 := h207.le le215
              have h1058 := h1057.le le222
              have h1059 := h1058.le le244
              have h1060 := h1059.le le267
              have h1061 := h1060.le le480
              have h1062 := h1061.le le505
              have h1063 := h1062.le le510
              have h1064 := h1063.le le529
              have h1065 := h1064.le le541
              have h1066 := h1065.le le555
              have h1067 := h1066.le le562
              have h1068 := h1067.le le576
              have h1069 := h1068.le le933
              have h1070 := h1069.le le938
              have h1071 := h1070.le le950
              have h1072 := h1071.le le991
              have h1073 := h1072.le le1034
              have q := bnd hm1038
              obtain ⟨x1074, h1075, hm1076⟩ := q
              refine OKS.callH 0 rfl rfl rfl (wantedY rfl rfl (congrArg Value.bool c1037.out)) (Enters.mk rfl rfl Try.call26 (mapcons rfl (mapcons rfl mapnil)) rfl) hS1036 (fun hs => w_klisterkit_Equal_target_Step x84 A93 c94 p2 pA2 pc2 W1033 φ1030 hs h1056 h1073 h1075) (.inr rfl) ?_
              rintro φ1077 L1078 v1079 W1080 le1081 hS1082 ⟨rfl, rfl⟩
              have hS1083 : St ⟨w, [], φ⟩ φ1077 [] W1080 := hS1082
              refine OKS.r rfl rfl rfl rfl (fun _ => Runs.pickT rfl (congrArg Value.bool c1037.out) rfl) ?_
              refine OKS.rm rfl rfl rfl rfl rfl rfl ?_
              by_cases c1084 : x1074 = true
              ·have hm1085 := hm1076; rw [if_pos c1084] at hm1085; replace c1084 := Hid.mk c1084
               have q := bnd hm1085
               obtain ⟨x1086, h1087, hm1088⟩ := q
               refine OKS.callH 0 rfl rfl rfl (wantedY rfl rfl (congrArg Value.bool c1084.out)) (Enters.mk rfl rfl Try.call10 mapnil rfl) hS1083 (fun hs => w_klisterlaw03_awake W1080 φ1077 hs h1087) (.inr rfl) ?_
               rintro φ1089 L1090 v1091 W1092 le1093 hS1094 ⟨rfl, rfl⟩
               have hS1095 : St ⟨w, [], φ⟩ φ1089 [] W1092 := hS1094
               refine OKS.r rfl rfl rfl rfl (fun _ => Runs.pickT rfl (congrArg Value.bool c1084.out) rfl) ?_
               refine OKS.ra rfl rfl rfl rfl rfl rfl ?_
               refine OKS.e ?_
               refine thenQ_n ?_
               refine CK.ret ?_
               cases hm1088
               exact ⟨rfl, _, (res1 rfl), φ1089, _, hS1095, rfl, rfl⟩
              ·have hm1096 := hm1076; rw [if_neg c1084] at hm1096; replace c1084 := Hid.mk c1084
               refine OKS.px rfl rfl rfl (wantedN rfl rfl (congrArg Value.bool (Bool.eq_false_iff.2 c1084.out)) rfl) ?_
               refine OKS.r rfl rfl rfl rfl (fun _ => Runs.pickF rfl (congrArg Value.bool (Bool.eq_false_iff.2 c1084.out)) rfl) ?_
               refine OKS.ra rfl rfl rfl rfl rfl rfl ?_
               refine OKS.e ?_
               refine thenQ_n ?_
               refine CK.ret ?_
               cases hm1096
               exact ⟨rfl, _, (res1 rfl), φ1077, _, hS1083, rfl, rfl⟩
             ·have hm1097 := hm1029; rw [if_neg c1037] at hm1097; replace c1037 := Hid.mk c1037
              refine OKS.p rfl rfl rfl (wantedN rfl rfl (congrArg Value.bool (Bool.eq_false_iff.2 c1037.out)) rfl) ?_
              refine OKS.p rfl rfl rfl (wantedN rfl rfl (congrArg Value.bool (Bool.eq_false_iff.2 c1037.out)) rfl) ?_
              refine OKS.px rfl rfl rfl (wantedN rfl rfl (congrArg Value.bool (Bool.eq_false_iff.2 c1037.out)) rfl) ?_
              refine OKS.r rfl rfl rfl rfl (fun _ => Runs.pickF rfl (congrArg Value.bool (Bool.eq_false_iff.2 c1037.out)) rfl) ?_
              refine OKS.rm rfl rfl rfl rfl rfl rfl ?_
              refine OKS.px rfl rfl rfl (wantedN rfl rfl rfl rfl) ?_
              refine OKS.r rfl rfl rfl rfl (fun _ => Runs.pickF rfl rfl rfl) ?_
              refine OKS.ra rfl rfl rfl rfl rfl rfl ?_
              refine OKS.e ?_
              refine thenQ_n ?_
              refine CK.ret ?_
              cases hm1097
              exact ⟨rfl, _, (res1 rfl), φ1030, _, hS1036, rfl, rfl⟩
            ·have hm1098 := hm986; rw [if_neg c994] at hm1098; replace c994 := Hid.mk c994
             refine OKS.p rfl rfl rfl (wantedN rfl rfl (congrArg Value.bool (Bool.eq_false_iff.2 c994.out)) rfl) ?_
             refine OKS.p rfl rfl rfl (wantedN rfl rfl (congrArg Value.bool (Bool.eq_false_iff.2 c994.out)) rfl) ?_
             refine OKS.px rfl rfl rfl (wantedN rfl rfl (congrArg Value.bool (Bool.eq_false_iff.2 c994.out)) rfl) ?_
             refine OKS.r rfl rfl rfl rfl (fun _ => Runs.pickF rfl (congrArg Value.bool (Bool.eq_false_iff.2 c994.out)) rfl) ?_
             refine OKS.rm rfl rfl rfl rfl rfl rfl ?_
             refine OKS.p rfl rfl rfl (wantedN rfl rfl rfl rfl) ?_
             refine OKS.p rfl rfl rfl (wantedN rfl rfl rfl rfl) ?_
             refine OKS.px rfl rfl rfl (wantedN rfl rfl rfl rfl) ?_
             refine OKS.r rfl rfl rfl rfl (fun _ => Runs.pickF rfl rfl rfl) ?_
             refine OKS.rm rfl rfl rfl rfl rfl rfl ?_
             refine OKS.px rfl rfl rfl (wantedN rfl rfl rfl rfl) ?_
             refine OKS.r rfl rfl rfl rfl (fun _ => Runs.pickF rfl rfl rfl) ?_
             refine OKS.ra rfl rfl rfl rfl rfl rfl ?_
             refine OKS.e ?_
             refine thenQ_n ?_
             refine CK.ret ?_
             cases hm1098
             exact ⟨rfl, _, (res1 rfl), φ987, _, hS993, rfl, rfl⟩
           ·have hm1099 := hm945; rw [if_neg c953] at hm1099; replace c953 := Hid.mk c953
            refine CK.condT (congrArg (fun b => Value.bool (!b)) (Bool.eq_false_iff.2 c953.out)) ?_
            refine CK.seq ?_
            refine CK.reg (ks := []) (.fl 0 (.nil)) rfl ?_
            refine OKS.ra rfl rfl rfl rfl rfl rfl ?_
            refine OKS.e ?_
            refine thenQ_n ?_
            refine CK.ret ?_
            refine thenQ_r ?_
            cases hm1099
            exact ⟨rfl, _, (res1 rfl), φ946, _, hS952, rfl, rfl⟩
          ·have hm1100 := hm929; rw [if_neg c930] at hm1100; replace c930 := Hid.mk c930
           refine OKS.p rfl rfl rfl (wantedN rfl rfl (decT c930.out) rfl) ?_
           refine OKS.p rfl rfl rfl (wantedN rfl rfl (decT c930.out) rfl) ?_
           refine OKS.px rfl rfl rfl (wantedN rfl rfl (decT c930.out) rfl) ?_
           refine OKS.p rfl rfl rfl (wantedN rfl rfl (decT c930.out) rfl) ?_
           refine OKS.r rfl rfl rfl rfl (fun _ => Runs.pickT rfl (decT c930.out) rfl) ?_
           refine OKS.e ?_
           refine thenQ_n ?_
           refine CK.condT rfl ?_
           refine CK.seq ?_
           refine CK.reg (ks := []) (.fl 0 (.nil)) rfl ?_
           refine OKS.ra rfl rfl rfl rfl rfl rfl ?_
           refine OKS.e ?_
           refine thenQ_n ?_
           refine CK.ret ?_
           refine thenQ_r ?_
           cases hm1100
           exact ⟨rfl, _, (res1 rfl), φ572, _, (hS586.pick [] _ (by decide) rfl), rfl, rfl⟩
         ·have hm1101 := hm927; rw [if_neg c928] at hm1101; replace c928 := Hid.mk c928
          refine CK.condT (decT c928.out) ?_
          refine CK.reg (ks := []) (.fl 0 (.nil)) rfl ?_
          refine OKS.ra rfl rfl rfl rfl rfl rfl ?_
          refine OKS.e ?_
          refine thenQ_n ?_
          refine CK.seq ?_
          refine CK.seq ?_
          refine CK.reg (ks := []) (.fl 0 (.fl 1 (.fl 2 (.fl 3 (.fl 4 (.fl 5 (.fx 6 (.fl 7 (.fl 8 (.nil))) .stop))))))) rfl ?_
          refine OKS.rm rfl rfl rfl rfl rfl rfl ?_
          refine OKS.rm rfl rfl rfl rfl rfl f489 ?_
          refine OKS.r rfl rfl rfl rfl (fun _ => Runs.neq rfl rfl rfl) ?_
          refine OKS.rm rfl rfl rfl rfl rfl rfl ?_
          by_cases c1102 : x569 = x148
          ·have hm1103 := hm1101; rw [if_pos c1102] at hm1103; replace c1102 := Hid.mk c1102
           refine OKS.rm rfl rfl rfl (wantedY rfl rfl (decF (fun h => h c1102.out))) rfl rfl ?_
           refine OKS.rm rfl rfl rfl (wantedY rfl rfl (decF (fun h => h c1102.out))) rfl rfl ?_
           have q := hS586.freezeR (k := 1) (n := x568.length) rfl (flatMap_len (f := encI) (sz := 1) (fun _ => rfl) x568) (by decide)
           obtain ⟨φ1104, le1105, hs1106, hS1107⟩ := q
           have hS1108 : St ⟨w, [], φ⟩ φ1104 [.row (some ⟨b583, 0, none⟩) 1 3 1 (List.flatMap encI [2])] W582 := hS1107
           have q := bnd hm1103
           obtain ⟨x1109, h1110, hm1111⟩ := q
           refine OKS.callH 0 rfl rfl rfl (wantedY rfl rfl (decF (fun h => h c1102.out))) (Enters.mk rfl rfl Try.call24 (mapcons rfl (mapcons rfl mapnil)) rfl) hS1108 (fun hs => w_klisterkit_Equal_int x568 A578 c579 [] none 0 W582 φ1104 hs hs1106 (by first | exact Sl.nil _ _ _ _ | exact SlR.nil) h1110) (.inr rfl) ?_
           rintro φ1112 L1113 v1114 W1115 le1116 hS1117 ⟨rfl, rfl⟩
           have hS1118 : St ⟨w, [], φ⟩ φ1112 [.row (some ⟨b583, 0, none⟩) 1 3 1 (List.flatMap encI [2])] W1115 := hS1117
           refine OKS.r rfl rfl rfl (wantedY rfl rfl (decF (fun h => h c1102.out))) (fun _ => Runs.notT rfl rfl) ?_
           refine OKS.r rfl rfl rfl rfl (fun _ => Runs.pickF rfl (decF (fun h => h c1102.out)) rfl) ?_
           refine OKS.e ?_
           refine thenQ_n ?_
           by_cases c1119 : x1109 = true
           ·have hm1120 := hm1111; rw [if_pos c1119] at hm1120; replace c1119 := Hid.mk c1119
            refine CK.condF (congrArg (fun b => Value.bool (!b)) c1119.out) ?_
            refine CK.skip ?_
            refine thenQ_n ?_
            refine CK.seq ?_
            refine CK.fresh fun σ1121 hσ1122 => ?_
            have f1123 : σ1121 0 = .slice pA0 p0.length pc0 := (hσ1122 0).trans f482
            have f1124 : σ1121 1 = .slice pA1 p1.length pc1 := (hσ1122 1).trans f483
            have f1125 : σ1121 2 = .slice pA2 p2.length pc2 := (hσ1122 2).trans f484
            have f1126 : σ1121 7 = .slice A62 x53.length c63 := (hσ1122 7).trans f485
            have f1127 : σ1121 8 = .slice A77 x68.length c78 := (hσ1122 8).trans f486
            have f1128 : σ1121 9 = .slice A93 x84.length c94 := (hσ1122 9).trans f487
            clear hσ1122
            refine CK.reg (ks := []) (.fl 0 (.fl 1 (.fx 2 (.fl 3 (.fl 4 (.fl 5 (.fx 6 (.fl 7 (.fl 8 (.fl 9 (.fl 10 (.fx 11 (.fl 12 (.fl 13 (.fx 14 (.fl 15 (.fl 16 (.nil))) .stop))) .stop))))) .stop)))) .stop))) rfl ?_
            refine OKS.rm rfl rfl rfl rfl rfl f1126 ?_
            refine OKS.rm rfl rfl rfl rfl rfl f1123 ?_
            have h1129 := h518.le le529
            have h1130 := h1129.le le541
            have h1131 := h1130.le le555
            have h1132 := h1131.le le562
            have h1133 := h1132.le le576
            have h1134 := h1133.le le1105
            have h1135 := h1134.le le1116
            have h1136 := h230.le le244
            have h1137 := h1136.le le267
            have h1138 := h1137.le le480
            have h1139 := h1138.le le505
            have h1140 := h1139.le le510
            have h1141 := h1140.le le529
            have h1142 := h1141.le le541
            have h1143 := h1142.le le555
            have h1144 := h1143.le le562
            have h1145 := h1144.le le576
            have h1146 := h1145.le le1105
            have h1147 := h1146.le le1116
            have q := bnd hm1120
            obtain ⟨x1148, h1149, hm1150⟩ := q
            refine OKS.callH 0 rfl rfl rfl rfl (Enters.mk rfl rfl Try.call24 (mapcons rfl (mapcons rfl mapnil)) rfl) hS1118 (fun hs => w_klisterkit_Equal_int x53 A62 c63 p0 pA0 pc0 W1115 φ1112 hs h1135 h1147 h1149) (.inr rfl) ?_
            rintro φ1151 L1152 v1153 W1154 le1155 hS1156 ⟨rfl, rfl⟩
            have hS1157 : St ⟨w, [], φ⟩ φ1151 [.row (some ⟨b583, 0, none⟩) 1 3 1 (List.flatMap encI [2])] W1154 := hS1156
            refine OKS.rm rfl rfl rfl rfl rfl rfl ?_
            by_cases c1158 : x1148 = true
            ·have hm1159 := hm1150; rw [if_pos c1158] at hm1159; replace c1158 := Hid.mk c1158
             refine OKS.rm rfl rfl rfl (wantedY rfl rfl (congrArg Value.bool c1158.out)) rfl f1127 ?_
             refine OKS.rm rfl rfl rfl (wantedY rfl rfl (congrArg Value.bool c1158.out)) rfl f1124 ?_
             have h1160 := h551.le le555
             have h1161 := h1160.le le562
             have h1162 := h1161.le le576
             have h1163 := h1162.le le1105
             have h1164 := h1163.le le1116
             have h1165 := h1164.le le1155
             have h1166 := h98.le le106
             have h1167 := h1166.le le113
             have h1168 := h1167.le le118
             have h1169 := h1168.le le131
             have h1170 := h1169.le le135
             have h1171 := h1170.le le155
             have h1172 := h1171.le le163
             have h1173 := h1172.le le183
             have h1174 := h1173.le le215
             have h1175 := h1174.le le222
             have h1176 := h1175.le le244
             have h1177 := h1176.le le267
             have h1178 := h1177.le le480
             have h1179 := h1178.le le505
             have h1180 := h1179.le le510
             have h1181 := h1180.le le529
             have h1182 := h1181.le le541
             have h1183 := h1182.le le555
             have h1184 := h1183.le le562
             have h1185 := h1184.le le576
             have h1186 := h1185.le le1105
             have h1187 := h1186.le le1116
             have h1188 := h1187.le le1155
             have q := bnd hm1159
             obtain ⟨x1189, h1190, hm1191⟩ := q
             refine OKS.callH 0 rfl rfl rfl (wantedY rfl rfl (congrArg Value.bool c1158.out)) (Enters.mk rfl rfl Try.call25 (mapcons rfl (mapcons rfl mapnil)) rfl) hS1157 (fun hs => w_klisterkit_Equal_target_Sheet x68 A77 c78 p1 pA1 pc1 W1154 φ1151 hs h1165 h1188 h1190) (.inr rfl) ?_
             rintro φ1192 L1193 v1194 W1195 le1196 hS1197 ⟨rfl, rfl⟩
             have hS1198 : St ⟨w, [], φ⟩ φ1192 [.row (some ⟨b583, 0, none⟩) 1 3 1 (List.flatMap encI [2])] W1195 := hS1197
             refine OKS.r rfl rfl rfl rfl (fun _ => Runs.pickT rfl (congrArg Value.bool c1158.out) rfl) ?_
             refine OKS.rm rfl rfl rfl rfl rfl rfl ?_
             by_cases c1199 : x1189 = true
             ·have hm1200 := hm1191; rw [if_pos c1199] at hm1200; replace c1199 := Hid.mk c1199
              refine OKS.rm rfl rfl rfl (wantedY rfl rfl (congrArg Value.bool c1199.out)) rfl f1128 ?_
              refine OKS.rm rfl rfl rfl (wantedY rfl rfl (congrArg Value.bool c1199.out)) rfl f1125 ?_
              have h1201 := hs164.le le183
              have h1202 := h1201.le le215
              have h1203 := h1202.le le222
              have h1204 := h1203.le le244
              have h1205 := h1204.le le267
              have h1206 := h1205.le le480
              have h1207 := h1206.le le505
              have h1208 := h1207.le le510
              have h1209 := h1208.le le529
              have h1210 := h1209.le le541
              have h1211 := h1210.le le555
              have h1212 := h1211.le le562
              have h1213 := h1212.le le576
              have h1214 := h1213.le le1105
              have h1215 := h1214.le le1116
              have h1216 := h1215.le le1155
              have h1217 := h1216.le le1196
              have h1218 := h207.le le215
              have h1219 := h1218.le le222
              have h1220 := h1219.le le244
              have h1221 := h1220.le le267
              have h1222 := h1221.le le480
              have h1223 := h1222.le le505
              have h1224 := h1223.le le510
              have h1225 := h1224.le le529
              have h1226 := h1225.le le541
              have h1227 := h1226.le le555
              have h1228 := h1227.le le562
              have h1229 := h1228.le le576
              have h1230 := h1229.le le1105
              have h1231 := h1230.le le1116
              have h1232 := h1231.le le1155
              have h1233 := h1232.le le1196
              have q := bnd hm1200
              obtain ⟨x1234, h1235, hm1236⟩ := q
              refine OKS.callH 0 rfl rfl rfl (wantedY rfl rfl (congrArg Value.bool c1199.out)) (Enters.mk rfl rfl Try.call26 (mapcons rfl (mapcons rfl mapnil)) rfl) hS1198 (fun hs => w_klisterkit_Equal_target_Step x84 A93 c94 p2 pA2 pc2 W1195 φ1192 hs h1217 h1233 h1235) (.inr rfl) ?_
              rintro φ1237 L1238 v1239 W1240 le1241 hS1242 ⟨rfl, rfl⟩
              have hS1243 : St ⟨w, [], φ⟩ φ1237 [.row (some ⟨b583, 0, none⟩) 1 3 1 (List.flatMap encI [2])] W1240 := hS1242
              refine OKS.r rfl rfl rfl rfl (fun _ => Runs.pickT rfl (congrArg Value.bool c1199.out) rfl) ?_
              refine OKS.rm rfl rfl rfl rfl rfl rfl ?_
              by_cases c1244 : x1234 = true
              ·have hm1245 := hm1236; rw [if_pos c1244] at hm1245; replace c1244 := Hid.mk c1244
               have q := bnd hm1245
               obtain ⟨x1246, h1247, hm1248⟩ := q
               refine OKS.callH 0 rfl rfl rfl (wantedY rfl rfl (congrArg Value.bool c1244.out)) (Enters.mk rfl rfl Try.call10 mapnil rfl) hS1243 (fun hs => w_klisterlaw03_awake W1240 φ1237 hs h1247) (.inr rfl) ?_
               rintro φ1249 L1250 v1251 W1252 le1253 hS1254 ⟨rfl, rfl⟩
               have hS1255 : St ⟨w, [], φ⟩ φ1249 [.row (some ⟨b583, 0, none⟩) 1 3 1 (List.flatMap encI [2])] W1252 := hS1254
               refine OKS.r rfl rfl rfl rfl (fun _ => Runs.pickT rfl (congrArg Value.bool c1244.out) rfl) ?_
               refine OKS.ra rfl rfl rfl rfl rfl rfl ?_
               refine OKS.e ?_
               refine thenQ_n ?_
               refine CK.ret ?_
               cases hm1248
               exact ⟨rfl, _, (res1 rfl), φ1249, _, (hS1255.pick [] _ (by decide) rfl), rfl, rfl⟩
              ·have hm1256 := hm1236; rw [if_neg c1244] at hm1256; replace c1244 := Hid.mk c1244
               refine OKS.px rfl rfl rfl (wantedN rfl rfl (congrArg Value.bool (Bool.eq_false_iff.2 c1244.out)) rfl) ?_
               refine OKS.r rfl rfl rfl rfl (fun _ => Runs.pickF rfl (congrArg Value.bool (Bool.eq_false_iff.2 c1244.out)) rfl) ?_
               refine OKS.ra rfl rfl rfl rfl rfl rfl ?_
               refine OKS.e ?_
               refine thenQ_n ?_
               refine CK.ret ?_
               cases hm1256
               exact ⟨rfl, _, (res1 rfl), φ1237, _, (hS1243.pick [] _ (by decide) rfl), rfl, rfl⟩
             ·have hm1257 := hm1191; rw [if_neg c1199] at hm1257; replace c1199 := Hid.mk c1199
              refine OKS.p rfl rfl rfl (wantedN rfl rfl (congrArg Value.bool (Bool.eq_false_iff.2 c1199.out)) rfl) ?_
              refine OKS.p rfl rfl rfl (wantedN rfl rfl (congrArg Value.bool (Bool.eq_false_iff.2 c1199.out)) rfl) ?_
              refine OKS.px rfl rfl rfl (wantedN rfl rfl (congrArg Value.bool (Bool.eq_false_iff.2 c1199.out)) rfl) ?_
              refine OKS.r rfl rfl rfl rfl (fun _ => Runs.pickF rfl (congrArg Value.bool (Bool.eq_false_iff.2 c1199.out)) rfl) ?_
              refine OKS.rm rfl rfl rfl rfl rfl rfl ?_
              refine OKS.px rfl rfl rfl (wantedN rfl rfl rfl rfl) ?_
              refine OKS.r rfl rfl rfl rfl (fun _ => Runs.pickF rfl rfl rfl) ?_
              refine OKS.ra rfl rfl rfl rfl rfl rfl ?_
              refine OKS.e ?_
              refine thenQ_n ?_
              refine CK.ret ?_
              cases hm1257
              exact ⟨rfl, _, (res1 rfl), φ1192, _, (hS1198.pick [] _ (by decide) rfl), rfl, rfl⟩
            ·have hm1258 := hm1150; rw [if_neg c1158] at hm1258; replace c1158 := Hid.mk c1158
             refine OKS.p rfl rfl rfl (wantedN rfl rfl (congrArg Value.bool (Bool.eq_false_iff.2 c1158.out)) rfl) ?_
             refine OKS.p rfl rfl rfl (wantedN rfl rfl (congrArg Value.bool (Bool.eq_false_iff.2 c1158.out)) rfl) ?_
             refine OKS.px rfl rfl rfl (wantedN rfl rfl (congrArg Value.bool (Bool.eq_false_iff.2 c1158.out)) rfl) ?_
             refine OKS.r rfl rfl rfl rfl (fun _ => Runs.pickF rfl (congrArg Value.bool (Bool.eq_false_iff.2 c1158.out)) rfl) ?_
             refine OKS.rm rfl rfl rfl rfl rfl rfl ?_
             refine OKS.p rfl rfl rfl (wantedN rfl rfl rfl rfl) ?_
             refine OKS.p rfl rfl rfl (wantedN rfl rfl rfl rfl) ?_
             refine OKS.px rfl rfl rfl (wantedN rfl rfl rfl rfl) ?_
             refine OKS.r rfl rfl rfl rfl (fun _ => Runs.pickF rfl rfl rfl) ?_
             refine OKS.rm rfl rfl rfl rfl rfl rfl ?_
             refine OKS.px rfl rfl rfl (wantedN rfl rfl rfl rfl) ?_
             refine OKS.r rfl rfl rfl rfl (fun _ => Runs.pickF rfl rfl rfl) ?_
             refine OKS.ra rfl rfl rfl rfl rfl rfl ?_
             refine OKS.e ?_
             refine thenQ_n ?_
             refine CK.ret ?_
             cases hm1258
             exact ⟨rfl, _, (res1 rfl), φ1151, _, (hS1157.pick [] _ (by decide) rfl), rfl, rfl⟩
           ·have hm1259 := hm1111; rw [if_neg c1119] at hm1259; replace c1119 := Hid.mk c1119
            refine CK.condT (congrArg (fun b => Value.bool (!b)) (Bool.eq_false_iff.2 c1119.out)) ?_
            refine CK.seq ?_
            refine CK.reg (ks := []) (.fl 0 (.nil)) rfl ?_
            refine OKS.ra rfl rfl rfl rfl rfl rfl ?_
            refine OKS.e ?_
            refine thenQ_n ?_
            refine CK.ret ?_
            refine thenQ_r ?_
            cases hm1259
            exact ⟨rfl, _, (res1 rfl), φ1112, _, (hS1118.pick [] _ (by decide) rfl), rfl, rfl⟩
          ·have hm1260 := hm1101; rw [if_neg c1102] at hm1260; replace c1102 := Hid.mk c1102
           refine OKS.p rfl rfl rfl (wantedN rfl rfl (decT c1102.out) rfl) ?_
           refine OKS.p rfl rfl rfl (wantedN rfl rfl (decT c1102.out) rfl) ?_
           refine OKS.px rfl rfl rfl (wantedN rfl rfl (decT c1102.out) rfl) ?_
           refine OKS.p rfl rfl rfl (wantedN rfl rfl (decT c1102.out) rfl) ?_
           refine OKS.r rfl rfl rfl rfl (fun _ => Runs.pickT rfl (decT c1102.out) rfl) ?_
           refine OKS.e ?_
           refine thenQ_n ?_
           refine CK.condT rfl ?_
           refine CK.seq ?_
           refine CK.reg (ks := []) (.fl 0 (.nil)) rfl ?_
           refine OKS.ra rfl rfl rfl rfl rfl rfl ?_
           refine OKS.e ?_
           refine thenQ_n ?_
           refine CK.ret ?_
           refine thenQ_r ?_
           cases hm1260
           exact ⟨rfl, _, (res1 rfl), φ572, _, (hS586.pick [] _ (by decide) rfl), rfl, rfl⟩
      ·have hm1261 := hm248; rw [if_neg c249] at hm1261; replace c249 := Hid.mk c249
       refine CK.condT (decT c249.out) ?_
       refine CK.seq ?_
       refine CK.reg (ks := []) (.fl 0 (.nil)) rfl ?_
       refine OKS.ra rfl rfl rfl rfl rfl rfl ?_
       refine OKS.e ?_
       refine thenQ_n ?_
       refine CK.ret ?_
       refine thenQ_r ?_
       cases hm1261
       exact ⟨rfl, _, (res1 rfl), φ240, _, hS246, rfl, rfl⟩
     ·have hm1262 := hm239; rw [if_neg c247] at hm1262; replace c247 := Hid.mk c247
      refine OKS.p rfl rfl rfl (wantedN rfl rfl (decT c247.out) rfl) ?_
      refine OKS.p rfl rfl rfl (wantedN rfl rfl (decT c247.out) rfl) ?_
      refine OKS.p rfl rfl rfl (wantedN rfl rfl (decT c247.out) rfl) ?_
      refine OKS.r rfl rfl rfl rfl (fun _ => Runs.pickT rfl (decT c247.out) rfl) ?_
      refine OKS.e ?_
      refine thenQ_n ?_
      refine CK.condT rfl ?_
      refine CK.seq ?_
      refine CK.reg (ks := []) (.fl 0 (.nil)) rfl ?_
      refine OKS.ra rfl rfl rfl rfl rfl rfl ?_
      refine OKS.e ?_
      refine thenQ_n ?_
      refine CK.ret ?_
      refine thenQ_r ?_
      cases hm1262
      exact ⟨rfl, _, (res1 rfl), φ240, _, hS246, rfl, rfl⟩
    ·have hm1263 := hm159; rw [if_neg c160] at hm1263; replace c160 := Hid.mk c160
     refine CK.condT (decT c160.out) ?_
     refine CK.seq ?_
     refine CK.reg (ks := []) (.fl 0 (.nil)) rfl ?_
     refine OKS.ra rfl rfl rfl rfl rfl rfl ?_
     refine OKS.e ?_
     refine thenQ_n ?_
     refine CK.ret ?_
     refine thenQ_r ?_
     cases hm1263
     exact ⟨rfl, _, (res1 rfl), φ151, _, (hS157.pick [] _ (by decide) rfl), rfl, rfl⟩
   ·have hm1264 := hm150; rw [if_neg c158] at hm1264; replace c158 := Hid.mk c158
    refine OKS.p rfl rfl rfl (wantedN rfl rfl (congrArg (fun b => Value.bool (!b)) (Bool.eq_false_iff.2 c158.out)) rfl) ?_
    refine OKS.p rfl rfl rfl (wantedN rfl rfl (congrArg (fun b => Value.bool (!b)) (Bool.eq_false_iff.2 c158.out)) rfl) ?_
    refine OKS.p rfl rfl rfl (wantedN rfl rfl (congrArg (fun b => Value.bool (!b)) (Bool.eq_false_iff.2 c158.out)) rfl) ?_
    refine OKS.r rfl rfl rfl rfl (fun _ => Runs.pickT rfl (congrArg (fun b => Value.bool (!b)) (Bool.eq_false_iff.2 c158.out)) rfl) ?_
    refine OKS.e ?_
    refine thenQ_n ?_
    refine CK.condT rfl ?_
    refine CK.seq ?_
    refine CK.reg (ks := []) (.fl 0 (.nil)) rfl ?_
    refine OKS.ra rfl rfl rfl rfl rfl rfl ?_
    refine OKS.e ?_
    refine thenQ_n ?_
    refine CK.ret ?_
    refine thenQ_r ?_
    cases hm1264
    exact ⟨rfl, _, (res1 rfl), φ151, _, (hS157.pick [] _ (by decide) rfl), rfl, rfl⟩
end Go.Proofs.Ytaoaelhmiggepaa
