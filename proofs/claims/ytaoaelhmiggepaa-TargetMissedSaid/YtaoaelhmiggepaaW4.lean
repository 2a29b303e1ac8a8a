/- Walks, printed by a program: each function does what its model says. -/
import Derived.Test.YtaoaelhmiggepaaEnc
import Derived.Test.YtaoaelhmiggepaaW0
import Derived.Test.YtaoaelhmiggepaaW1
import Derived.Test.YtaoaelhmiggepaaW2
import Derived.Test.YtaoaelhmiggepaaW3
namespace Go.Proofs.Ytaoaelhmiggepaa
open Go.KL
set_option maxHeartbeats 4000000 in
theorem w_target_Round (p0 : List Int) (pA0 : Option Addr) (pc0 : Nat) (p1 : List T_target_Sheet) (pA1 : Option Addr) (pc1 : Nat) (w : World) (φ : PHeap) (hS : St ⟨w, [], φ⟩ φ [] w) (ha0 : Sl φ 1 pA0 pc0 p0.length (List.flatMap encI p0)) (ha1 : Sl φ 4 pA1 pc1 p1.length (List.flatMap encT_target_Sheet p1)) {r : (List T_target_Step) × Int} (hm : m_target_Round p0 p1 = some r) : Gv Try.prog 20 [.slice pA0 p0.length pc0, .slice pA1 p1.length pc1] w (RetS w [] φ (fun φ_ L_ v => ∃ (A0 : Option Addr) (c0 : Nat), v = .tuple #[.slice A0 r.1.length c0, .int .i64 r.2] ∧ L_ = [.row A0 c0 35 2 (List.flatMap encT_target_Step r.1)])) := by
 unfold m_target_Round at hm
 refine Gv.of Try.func20 rfl Try.ntmps20 Try.results20 rfl ?_
 refine CK.seq ?_
 refine CK.reg (ks := []) (.fl 0 (.fl 1 (.nil))) rfl ?_
 refine OKS.ra rfl rfl rfl rfl rfl rfl ?_
 refine OKS.ra rfl rfl rfl rfl rfl rfl ?_
 refine OKS.e ?_
 refine thenQ_n ?_
 refine CK.seq ?_
 refine CK.seq ?_
 refine CK.reg (ks := []) (.fl 0 (.fl 1 (.fx 2 (.fl 3 (.nil)) .stop))) rfl ?_
 refine OKS.rm rfl rfl rfl rfl rfl rfl ?_
 refine OKS.rm rfl rfl rfl rfl rfl rfl ?_
 have q := bnd hm
 obtain ⟨x1, h2, hm3⟩ := q
 refine OKS.callH 0 rfl rfl rfl rfl (Enters.mk rfl rfl Try.call64 (mapcons rfl (mapcons rfl mapnil)) rfl) hS (fun hs => w_target_due p0 pA0 pc0 p1 pA1 pc1 w φ hs ha0 ha1 h2) (.inr rfl) ?_
 rintro φ4 L5 v6 W7 le8 hS9 ⟨rfl, rfl⟩
 have hS10 : St ⟨w, [], φ⟩ φ4 [] W7 := hS9
 refine OKS.ra rfl rfl rfl rfl rfl rfl ?_
 refine OKS.e ?_
 refine thenQ_n ?_
 refine CK.seq ?_
 refine CK.reg (ks := []) (.fl 0 (.fl 1 (.nil))) rfl ?_
 refine OKS.rm rfl rfl rfl rfl rfl rfl ?_
 refine OKS.r rfl rfl rfl rfl (fun _ => Runs.neq rfl rfl rfl) ?_
 refine OKS.e ?_
 refine thenQ_n ?_
 by_cases c11 : x1 = 0
 ·have hm12 := hm3; rw [if_pos c11] at hm12; replace c11 := Hid.mk c11
  refine CK.condF (decF (fun h => h c11.out)) ?_
  refine CK.skip ?_
  refine thenQ_n ?_
  refine CK.seq ?_
  refine CK.reg (ks := []) (.fl 0 (.fl 1 (.fl 2 (.nil)))) rfl ?_
  refine OKS.rm rfl rfl rfl rfl rfl rfl ?_
  refine OKS.r rfl rfl rfl rfl (fun _ => Runs.len rfl rfl Try.runUnderlying22) ?_
  refine OKS.ra rfl rfl rfl rfl rfl rfl ?_
  refine OKS.e ?_
  refine thenQ_n ?_
  refine CK.seq ?_
  refine CK.seq ?_
  refine CK.reg (ks := []) (.fl 0 (.fl 1 (.fl 2 (.fx 3 (.fx 4 (.fl 5 (.nil)) .stop) .stop)))) rfl ?_
  refine OKS.rm rfl rfl rfl rfl rfl rfl ?_
  refine OKS.rm rfl rfl rfl rfl rfl rfl ?_
  refine OKS.rm rfl rfl rfl rfl rfl rfl ?_
  have h13 := ha1.le le8
  have q := bnd hm12
  obtain ⟨x14, h15, hm16⟩ := q
  refine OKS.callH 0 rfl rfl rfl rfl (Enters.mk rfl rfl Try.call66 (mapcons rfl (mapcons rfl (mapcons rfl mapnil))) rfl) hS10 (fun hs => w_target_links (↑p0.length : Int) p1 pA1 pc1 [] none 0 W7 φ4 hs h13 (by first | exact Sl.nil _ _ _ _ | exact SlR.nil) h15) (.inr rfl) ?_
  rintro φ17 L18 v19 W20 le21 hS22 ⟨A23, c24, c25, rfl, rfl, h27⟩
  have hS28 : St ⟨w, [], φ⟩ φ17 [.row A23 c24 134 5 c25] W20 := hS22
  have q := hS28.freezeRR (R := rl134) (k := 0) rfl h27 rfl (by decide)
  obtain ⟨φ29, le30, hs31, hS32⟩ := q
  have hS33 : St ⟨w, [], φ⟩ φ29 [] W20 := hS32
  have q := bnd hm16
  obtain ⟨x34, h35, hm36⟩ := q
  refine OKS.callH 0 rfl rfl rfl rfl (Enters.mk rfl rfl Try.call72 (mapcons rfl (mapcons rfl mapnil)) rfl) hS33 (fun hs => w_target_round (↑p0.length : Int) x14 A23 c24 W20 φ29 hs hs31 h35) (.inr rfl) ?_
  rintro φ37 L38 v39 W40 le41 hS42 ⟨A43, c44, rfl, rfl, h46⟩
  have hS47 : St ⟨w, [], φ⟩ φ37 [.row A43 c44 35 2 (List.flatMap encT_target_Step x34)] W40 := hS42
  refine OKS.ra rfl rfl rfl rfl rfl rfl ?_
  refine OKS.e ?_
  refine thenQ_n ?_
  refine CK.seq ?_
  refine CK.reg (ks := []) (.fl 0 (.fl 1 (.nil))) rfl ?_
  refine OKS.rm rfl rfl rfl rfl rfl rfl ?_
  have h48 : A43.isNone = decide (x34 = []) := nil_iff (j := 0) hS47 rfl (fun _ => rfl) (by decide) h46
  refine OKS.r rfl rfl rfl rfl (fun _ => Runs.neNilR (b := decide (¬ (x34 = []))) rfl rfl rfl Try.runUnderlying24 (by simp [h48])) ?_
  refine OKS.e ?_
  refine thenQ_n ?_
  by_cases c49 : x34 = []
  ·have hm50 := hm36; rw [if_pos c49] at hm50; replace c49 := Hid.mk c49
   refine CK.condF (decF (fun h => h c49.out)) ?_
   refine CK.skip ?_
   refine thenQ_n ?_
   refine CK.seq ?_
   refine CK.seq ?_
   refine CK.reg (ks := []) (.fl 0 (.fl 1 (.fl 2 (.fl 3 (.fx 4 (.fx 5 (.fl 6 (.nil)) .stop) .stop))))) rfl ?_
   refine OKS.rm rfl rfl rfl rfl rfl rfl ?_
   refine OKS.rm rfl rfl rfl rfl rfl rfl ?_
   refine OKS.rm rfl rfl rfl rfl rfl rfl ?_
   refine OKS.rm rfl rfl rfl rfl rfl rfl ?_
   have h51 := h13.le le21
   have h52 := h51.le le30
   have h53 := h52.le le41
   have h54 := ha0.le le8
   have h55 := h54.le le21
   have h56 := h55.le le30
   have h57 := h56.le le41
   have q := bnd hm50
   obtain ⟨x58, h59, hm60⟩ := q
   refine OKS.callH 0 rfl rfl rfl rfl (Enters.mk rfl rfl Try.call66 (mapcons rfl (mapcons rfl (mapcons rfl mapnil))) rfl) hS47 (fun hs => w_target_links (↑p0.length : Int) p1 pA1 pc1 p0 pA0 pc0 W40 φ37 hs h53 h57 h59) (.inr rfl) ?_
   rintro φ61 L62 v63 W64 le65 hS66 ⟨A67, c68, c69, rfl, rfl, h71⟩
   have hS72 : St ⟨w, [], φ⟩ φ61 [.row A67 c68 134 5 c69, .row A43 c44 35 2 (List.flatMap encT_target_Step x34)] W64 := hS66
   have q := hS72.freezeRR (R := rl134) (k := 0) rfl h71 rfl (by decide)
   obtain ⟨φ73, le74, hs75, hS76⟩ := q
   have hS77 : St ⟨w, [], φ⟩ φ73 [.row A43 c44 35 2 (List.flatMap encT_target_Step x34)] W64 := hS76
   have q := bnd hm60
   obtain ⟨x78, h79, hm80⟩ := q
   refine OKS.callH 0 rfl rfl rfl rfl (Enters.mk rfl rfl Try.call72 (mapcons rfl (mapcons rfl mapnil)) rfl) hS77 (fun hs => w_target_round (↑p0.length : Int) x58 A67 c68 W64 φ73 hs hs75 h79) (.inr rfl) ?_
   rintro φ81 L82 v83 W84 le85 hS86 ⟨A87, c88, rfl, rfl, h90⟩
   have hS91 : St ⟨w, [], φ⟩ φ81 [.row A87 c88 35 2 (List.flatMap encT_target_Step x78), .row A43 c44 35 2 (List.flatMap encT_target_Step x34)] W84 := hS86
   refine OKS.ra rfl rfl rfl rfl rfl rfl ?_
   refine OKS.e ?_
   refine thenQ_n ?_
   refine CK.seq ?_
   refine CK.reg (ks := []) (.fl 0 (.fl 1 (.nil))) rfl ?_
   refine OKS.rm rfl rfl rfl rfl rfl rfl ?_
   have h92 : A87.isNone = decide (x78 = []) := nil_iff (j := 0) hS91 rfl (fun _ => rfl) (by decide) h90
   refine OKS.r rfl rfl rfl rfl (fun _ => Runs.neNilR (b := decide (¬ (x78 = []))) rfl rfl rfl Try.runUnderlying24 (by simp [h92])) ?_
   refine OKS.e ?_
   refine thenQ_n ?_
   by_cases c93 : x78 = []
   ·have hm94 := hm80; rw [if_pos c93] at hm94; replace c93 := Hid.mk c93
    refine CK.condF (decF (fun h => h c93.out)) ?_
    refine CK.skip ?_
    refine thenQ_n ?_
    refine CK.seq ?_
    refine CK.reg (ks := []) (.fl 0 (.fl 1 (.nil))) rfl ?_
    refine OKS.ra rfl rfl rfl rfl rfl rfl ?_
    refine OKS.ra rfl rfl rfl rfl rfl rfl ?_
    refine OKS.e ?_
    refine thenQ_n ?_
    refine CK.ret ?_
    have hS95 := hS91.nilrow 35 2
    cases hm94
    exact ⟨rfl, _, (res2 rfl rfl), φ81, _, (hS95.pick [0] _ (by decide) rfl), none, 0, rfl, rfl⟩
   ·have hm97 := hm80; rw [if_neg c93] at hm97; replace c93 := Hid.mk c93
    refine CK.condT (decT c93.out) ?_
    refine CK.seq ?_
    refine CK.reg (ks := []) (.fl 0 (.fl 1 (.fl 2 (.nil)))) rfl ?_
    refine OKS.rm rfl rfl rfl rfl rfl rfl ?_
    refine OKS.ra rfl rfl rfl rfl rfl rfl ?_
    refine OKS.ra rfl rfl rfl rfl rfl rfl ?_
    refine OKS.e ?_
    refine thenQ_n ?_
    refine CK.ret ?_
    refine thenQ_r ?_
    cases hm97
    exact ⟨rfl, _, (res2 rfl rfl), φ81, _, (hS91.pick [0] _ (by decide) rfl), A87, c88, rfl, rfl⟩
  ·have hm98 := hm36; rw [if_neg c49] at hm98; replace c49 := Hid.mk c49
   refine CK.condT (decT c49.out) ?_
   refine CK.seq ?_
   refine CK.reg (ks := []) (.fl 0 (.fl 1 (.fl 2 (.nil)))) rfl ?_
   refine OKS.rm rfl rfl rfl rfl rfl rfl ?_
   refine OKS.ra rfl rfl rfl rfl rfl rfl ?_
   refine OKS.ra rfl rfl rfl rfl rfl rfl ?_
   refine OKS.e ?_
   refine thenQ_n ?_
   refine CK.ret ?_
   refine thenQ_r ?_
   cases hm98
   exact ⟨rfl, _, (res2 rfl rfl), φ37, _, hS47, A43, c44, rfl, rfl⟩
 ·have hm99 := hm3; rw [if_neg c11] at hm99; replace c11 := Hid.mk c11
  refine CK.condT (decT c11.out) ?_
  refine CK.seq ?_
  refine CK.reg (ks := []) (.fl 0 (.fl 1 (.fl 2 (.nil)))) rfl ?_
  refine OKS.rm rfl rfl rfl rfl rfl rfl ?_
  refine OKS.ra rfl rfl rfl rfl rfl rfl ?_
  refine OKS.ra rfl rfl rfl rfl rfl rfl ?_
  refine OKS.e ?_
  refine thenQ_n ?_
  refine CK.ret ?_
  refine thenQ_r ?_
  have hS100 := hS10.nilrow 35 2
  cases hm99
  exact ⟨rfl, _, (res2 rfl rfl), φ4, _, hS100, none, 0, rfl, rfl⟩

theorem w_klisterlaw03_awake (w : World) (φ : PHeap) (hS : St ⟨w, [], φ⟩ φ [] w) {r : Bool} (hm : m_klisterlaw03_awake = some r) : Gv Try.prog 10 [] w (RetS w [] φ (fun φ_ L_ v => v = .bool r ∧ L_ = [])) := by
  cases hm
  refine (xr10 w).mono ?_
  rintro v w' ⟨rfl, k⟩
  exact ⟨φ, [], hS.grow k, rfl, rfl⟩

set_option maxHeartbeats 4000000 in
theorem w_klisterlaw03_TargetMissed (p0 : List Int) (pA0 : Option Addr) (pc0 : Nat) (p1 : List Int) (pA1 : Option Addr) (pc1 : Nat) (p2 : Int) (p3 : Int) (w : World) (φ : PHeap) (hS : St ⟨w, [], φ⟩ φ [] w) (ha0 : Sl φ 1 pA0 pc0 p0.length (List.flatMap encB8 p0)) (ha1 : Sl φ 1 pA1 pc1 p1.length (List.flatMap encB8 p1)) {r : Bool} (hm : m_klisterlaw03_TargetMissed p0 p1 p2 p3 = some r) : Gv Try.prog 4 [.slice pA0 p0.length pc0, .slice pA1 p1.length pc1, .int .u8 p2, .int .u8 p3] w (RetS w [] φ (fun φ_ L_ v => v = .bool r ∧ L_ = [])) := by
 unfold m_klisterlaw03_TargetMissed at hm
 refine Gv.of Try.func4 rfl Try.ntmps4 Try.results4 rfl ?_
 refine CK.seq ?_
 refine CK.reg (ks := []) (.fl 0 (.nil)) rfl ?_
 refine OKS.ra rfl rfl rfl rfl rfl rfl ?_
 refine OKS.e ?_
 refine thenQ_n ?_
 refine CK.seq ?_
 refine CK.reg (ks := []) (.fl 0 (.fx 1 (.fx 2 (.fl 3 (.fl 4 (.fl 5 (.fl 6 (.fl 7 (.nil)))))) .stop) .stop)) rfl ?_
 refine OKS.rm rfl rfl rfl rfl rfl rfl ?_
 have q := bnd hm
 obtain ⟨x1, h2, hm3⟩ := q
 refine OKS.callH 0 rfl rfl rfl rfl (Enters.mk rfl rfl Try.call28 (mapcons rfl mapnil) rfl) hS (fun hs => w_klisterkit_Of p0 pA0 pc0 w φ hs ha0 h2) (.inr rfl) ?_
 rintro φ4 L5 v6 W7 le8 hS9 ⟨b10, A11, c12, rfl, rfl, h14⟩
 have hS15 : St ⟨w, [], φ⟩ φ4 [.blk b10 141 [.slice A11 x1.bytes.length c12, .int .i64 x1.next, .int .u32 x1.state]] W7 := hS9
 have q := bnd hm3
 obtain ⟨⟨x16, x17, x18⟩, h19, hm20⟩ := q
 try dsimp only at hm20
 refine OKS.callH 1 rfl rfl rfl rfl (Enters.mk rfl rfl Try.call27 (mapcons rfl (mapcons rfl (mapcons rfl mapnil))) rfl) hS15 (fun hs => w_klisterlaw03_Counted x1 b10 A11 c12 8 2 W7 φ4 hs h14 h19) (.inl rfl) ?_
 rintro φ21 L22 v23 W24 le25 hS26 ⟨A27, c28, A29, c30, A31, c32, rfl, rfl, h34, h35⟩
 have hS36 : St ⟨w, [], φ⟩ φ21 [.row A29 c30 31 4 (List.flatMap encT_target_Sheet x17), .blk b10 141 [.slice A31 x18.bytes.length c32, .int .i64 x18.next, .int .u32 x18.state]] W24 := hS26
 refine OKS.rm rfl rfl rfl rfl rfl rfl ?_
 refine OKS.r rfl rfl rfl rfl (fun _ => Runs.ext rfl rfl (v := .slice A27 x16.length c28) rfl) ?_
 refine OKS.r rfl rfl rfl rfl (fun _ => Runs.ext rfl rfl (v := .slice A29 x17.length c30) rfl) ?_
 refine OKS.ra rfl rfl rfl rfl rfl rfl ?_
 refine OKS.ra rfl rfl rfl rfl rfl rfl ?_
 refine OKS.e ?_
 refine thenQ_n ?_
 refine CK.seq ?_
 refine CK.reg (ks := []) (.fl 0 (.fl 1 (.fl 2 (.nil)))) rfl ?_
 refine OKS.rm rfl rfl rfl rfl rfl rfl ?_
 refine OKS.r rfl rfl rfl rfl (fun _ => Runs.len rfl rfl Try.runUnderlying22) ?_
 refine OKS.ra rfl rfl rfl rfl rfl rfl ?_
 refine OKS.e ?_
 refine thenQ_n ?_
 refine CK.seq ?_
 refine CK.reg (ks := []) (.fl 0 (.fx 1 (.fl 2 (.nil)) .stop)) rfl ?_
 refine OKS.rm rfl rfl rfl rfl rfl rfl ?_
 have h37 := ha1.le le8
 have h38 := h37.le le25
 have q := bnd hm20
 obtain ⟨x39, h40, hm41⟩ := q
 refine OKS.callH 0 rfl rfl rfl rfl (Enters.mk rfl rfl Try.call28 (mapcons rfl mapnil) rfl) hS36 (fun hs => w_klisterkit_Of p1 pA1 pc1 W24 φ21 hs h38 h40) (.inr rfl) ?_
 rintro φ42 L43 v44 W45 le46 hS47 ⟨b48, A49, c50, rfl, rfl, h52⟩
 have hS53 : St ⟨w, [], φ⟩ φ42 [.blk b48 141 [.slice A49 x39.bytes.length c50, .int .i64 x39.next, .int .u32 x39.state], .row A29 c30 31 4 (List.flatMap encT_target_Sheet x17), .blk b10 141 [.slice A31 x18.bytes.length c32, .int .i64 x18.next, .int .u32 x18.state]] W45 := hS47
 refine OKS.ra rfl rfl rfl rfl rfl rfl ?_
 refine OKS.e ?_
 refine thenQ_n ?_
 refine CK.seq ?_
 refine CK.reg (ks := []) (.fl 0 (.nil)) rfl ?_
 refine OKS.ra rfl rfl rfl rfl rfl rfl ?_
 refine OKS.e ?_
 refine thenQ_n ?_
 refine CK.seq ?_
 refine CK.seq ?_
 refine CK.reg (ks := []) (.fl 0 (.fl 1 (.fl 2 (.nil)))) rfl ?_
 refine OKS.rm rfl rfl rfl rfl rfl rfl ?_
 refine OKS.r rfl rfl rfl rfl (fun _ => Runs.len rfl rfl Try.runUnderlying22) ?_
 refine OKS.rm rfl rfl rfl rfl rfl rfl ?_
 refine OKS.e ?_
 refine thenQ_n ?_
 refine CK.block ?_
 have q := bnd hm41
 obtain ⟨⟨y96, y97, y98, y99⟩, hf93, hm92⟩ := q
 try dsimp only at hm92
 have q := forR'_le hf93
 obtain ⟨hle94, hf95⟩ := q
 replace hle94 := Hid.mk hle94
 refine CK.forN' (fun k91 (l82, x85, x86, l87) σ_ w_ => ∃ (φ_ : PHeap) (A83 : Option Addr) (c84 : Nat) (A88 : Option Addr) (c89 : Nat), σ_ 45 = .int .i64 (↑k91 : Int) ∧ σ_ 2 = .int .u8 p2 ∧ σ_ 3 = .int .u8 p3 ∧ σ_ 9 = .slice A27 x16.length c28 ∧ σ_ 10 = .slice A29 x17.length c30 ∧ σ_ 11 = .int .i64 (↑x16.length : Int) ∧ σ_ 12 = .pointer (some ⟨b48, 0, none⟩) ∧ σ_ 13 = .slice A88 l87.length c89 ∧ σ_ 44 = .int .i64 (↑x16.length : Int) ∧ PHeap.Le φ42 φ_ ∧ St ⟨w, [], φ⟩ φ_ [.blk b48 141 [.slice A83 l82.length c84, .int .i64 x85, .int .u32 x86], .blk b10 141 [.slice A31 x18.bytes.length c32, .int .i64 x18.next, .int .u32 x18.state], .row A29 c30 31 4 (List.flatMap encT_target_Sheet x17), .row A88 c89 3 1 (List.flatMap encI l87)] w_ ∧ Sl φ_ 1 A83 c84 l82.length (List.flatMap encB8 l82)) hf95 ?_ ?_ ?_
 ·have hS100 := hS53.nilrow 3 1
  exact ⟨φ42, A49, c50, none, 0, rfl, rfl, rfl, rfl, rfl, rfl, rfl, rfl, rfl, (PHeap.Le.refl _), (hS100.pick [1, 3, 2, 0] _ (by decide) rfl), h52⟩
 ·rintro k91 ⟨l82, x85, x86, l87⟩ xx104 σ102 W103 hk107 ⟨φ109, A83, c84, A88, c89, fi108, f112, f113, f114, f115, f116, f117, f118, f119, le110, hS111, h120⟩ hx105
  try dsimp only at hx105
  have c121 : Hid ((↑k91 : Int) < (↑x16.length : Int)) := Hid.mk (lp_lt0 hk107)
  replace hk107 := Hid.mk hk107
  have hi122 : Hid (w64 ((↑k91 : Int) + 1) = (↑(k91 + 1) : Int)) := Hid.mk (by have h1 := hle94.out; have h2 := c121.out; rw [w64_in] <;> omega)
  refine CK.seq ?_
  refine CK.reg (ks := []) (.fl 0 (.nil)) rfl ?_
  refine OKS.r rfl rfl rfl rfl (fun _ => Runs.lss rfl fi108 f119) ?_
  refine OKS.e ?_
  refine thenQ_n ?_
  refine CK.seq ?_
  refine CK.condT (decT c121.out) ?_
  refine CK.skip ?_
  refine thenQ_n ?_
  refine CK.seq ?_
  refine CK.block ?_
  refine CK.reg (ks := []) (.fl 0 (.fl 1 (.fx 2 (.fx 3 (.fx 4 (.fl 5 (.nil)) .stop) .stop) .stop))) rfl ?_
  refine OKS.rm rfl rfl rfl rfl rfl f118 ?_
  refine OKS.rm rfl rfl rfl rfl rfl f117 ?_
  have q := bnd hx105
  obtain ⟨⟨x123, x124⟩, h125, hm126⟩ := q
  try dsimp only at hm126
  refine OKS.callH 1 rfl rfl rfl rfl (Enters.mk rfl rfl Try.call29 (mapcons rfl (mapcons rfl mapnil)) rfl) hS111 (fun hs => w_klisterkit_Deck_Draw (⟨l82, x85, x86⟩ : T_klisterkit_Deck) b48 A83 c84 6 W103 φ109 hs h120 h125) (.inl rfl) ?_
  rintro φ127 L128 v129 W130 le131 hS132 ⟨A133, c134, rfl, rfl, h135⟩
  have hS136 : St ⟨w, [], φ⟩ φ127 [.blk b48 141 [.slice A133 x124.bytes.length c134, .int .i64 x124.next, .int .u32 x124.state], .blk b10 141 [.slice A31 x18.bytes.length c32, .int .i64 x18.next, .int .u32 x18.state], .row A29 c30 31 4 (List.flatMap encT_target_Sheet x17), .row A88 c89 3 1 (List.flatMap encI l87)] W130 := hS132
  refine OKS.buildSlice (pv := [(0, .int .i64 x123)]) (zs := [.int .i64 0]) (cs := [.int .i64 x123]) rfl rfl rfl rfl rfl (mapcons2 rfl mapnil2) Try.runUnderlying22 Try.sizeOf3 Try.zeroValue3 rfl rfl rfl rfl rfl hS136 ?_
  intro W137 b138 hS139
  have hS141 : St ⟨w, [], φ⟩ φ127 [.row (some ⟨b138, 0, none⟩) 1 3 1 (List.flatMap encI [x123]), .blk b48 141 [.slice A133 x124.bytes.length c134, .int .i64 x124.next, .int .u32 x124.state], .blk b10 141 [.slice A31 x18.bytes.length c32, .int .i64 x18.next, .int .u32 x18.state], .row A29 c30 31 4 (List.flatMap encT_target_Sheet x17), .row A88 c89 3 1 (List.flatMap encI l87)] W137 := hS139
  have q := bnd hm126
  obtain ⟨x142, h143, hm144⟩ := q
  refine OKS.append (j := 4) (enc := encI) (xs := l87) (ys := [x123]) (zs := x142) rfl rfl rfl rfl rfl Try.underlying22 info3 rfl rfl rfl rfl rfl rfl hS141 rfl rfl rfl (hS141.srcR (j := 0) rfl (by decide) (flatMap_len (f := encI) (sz := 1) (fun _ => rfl) [x123])) (fun _ => rfl) (fun _ => rfl) h143 rfl ?_
  intro A145 c146 W147 hS148
  have hS149 : St ⟨w, [], φ⟩ φ127 [.row (some ⟨b138, 0, none⟩) 1 3 1 (List.flatMap encI [x123]), .blk b48 141 [.slice A133 x124.bytes.length c134, .int .i64 x124.next, .int .u32 x124.state], .blk b10 141 [.slice A31 x18.bytes.length c32, .int .i64 x18.next, .int .u32 x18.state], .row A29 c30 31 4 (List.flatMap encT_target_Sheet x17), .row A145 c146 3 1 (List.flatMap encI x142)] W147 := hS148
  refine OKS.ra rfl rfl rfl rfl rfl rfl ?_
  refine OKS.e ?_
  refine blockQ_n ?_
  refine thenQ_n ?_
  refine CK.reg (ks := []) (.fl 0 (.fl 1 (.nil))) rfl ?_
  refine OKS.r rfl rfl rfl rfl (fun _ => Runs.to (Runs.addw rfl fi108 rfl) (congrArg (Value.int .i64) hi122.out)) ?_
  refine OKS.rm rfl rfl rfl rfl rfl rfl ?_
  refine OKS.e ?_
  cases hm144
  exact thenQ_n ⟨rfl, ⟨φ127, A133, c134, A145, c146, rfl, f112, f113, f114, f115, f116, f117, rfl, f119, (le110.trans le131), (hS149.pick [1, 2, 3, 4] _ (by decide) rfl), h135⟩⟩
 ·rintro σ158 W159 ⟨φ174, A170, c171, A172, c173, fi161, f177, f178, f179, f180, f181, f182, f183, f184, le175, hS176, h185⟩
  have c186 : Hid (¬ ((↑(((↑x16.length : Int) : Int) - 0).toNat : Int) < (↑x16.length : Int))) := Hid.mk (lp_end0)
  refine CK.seq ?_
  refine CK.reg (ks := []) (.fl 0 (.nil)) rfl ?_
  refine OKS.r rfl rfl rfl rfl (fun _ => Runs.lss rfl fi161 f184) ?_
  refine OKS.e ?_
  refine thenQ_n ?_
  refine CK.seq ?_
  refine CK.condF (decF c186.out) ?_
  refine CK.exit ?_
  refine thenQ_e ?_
  refine thenQ_e ?_
  refine blockQ_h ?_
  refine thenQ_n ?_
  refine CK.seq ?_
  refine CK.reg (ks := []) (.fl 0 (.fl 1 (.fx 2 (.fl 3 (.fl 4 (.fl 5 (.fl 6 (.fl 7 (.nil)))))) .stop))) rfl ?_
  refine OKS.rm rfl rfl rfl rfl rfl f183 ?_
  refine OKS.rm rfl rfl rfl rfl rfl f180 ?_
  have q := hS176.freezeT (k := 3) (n := y99.length) rfl (flatMap_len (f := encI) (sz := 1) (fun _ => rfl) y99) (by decide)
  obtain ⟨φ188, le189, hs190, hS191, th187⟩ := q
  have hS192 : St ⟨w, [], φ⟩ φ188 [.blk b48 141 [.slice A170 y96.length c171, .int .i64 y97, .int .u32 y98], .blk b10 141 [.slice A31 x18.bytes.length c32, .int .i64 x18.next, .int .u32 x18.state], .row A29 c30 31 4 (List.flatMap encT_target_Sheet x17)] W159 := hS191
  have q := hS192.freezeT (k := 2) (n := x17.length) rfl (flatMap_len (f := encT_target_Sheet) (sz := 4) (fun _ => rfl) x17) (by decide)
  obtain ⟨φ194, le195, hs196, hS197, th193⟩ := q
  have hS198 : St ⟨w, [], φ⟩ φ194 [.blk b48 141 [.slice A170 y96.length c171, .int .i64 y97, .int .u32 y98], .blk b10 141 [.slice A31 x18.bytes.length c32, .int .i64 x18.next, .int .u32 x18.state]] W159 := hS197
  have h199 := hs190.le le195
  have q := bnd hm92
  obtain ⟨⟨x200, x201⟩, h202, hm203⟩ := q
  try dsimp only at hm203
  refine OKS.callH 0 rfl rfl rfl rfl (Enters.mk rfl rfl Try.call15 (mapcons rfl (mapcons rfl mapnil)) rfl) hS198 (fun hs => w_target_Few y99 A172 c173 x17 A29 c30 W159 φ194 hs h199 hs196 h202) (.inr rfl) ?_
  rintro φ204 L205 v206 W207 le208 hS209 ⟨rfl, rfl⟩
  have hS210 : St ⟨w, [], φ⟩ φ204 [.blk b48 141 [.slice A170 y96.length c171, .int .i64 y97, .int .u32 y98], .blk b10 141 [.slice A31 x18.bytes.length c32, .int .i64 x18.next, .int .u32 x18.state]] W207 := hS209
  have q := th193 _ _ _ le208 hS210
  obtain ⟨φ211, le212, hS213⟩ := q
  have hS214 : St ⟨w, [], φ⟩ φ211 [.row A29 c30 31 4 (List.flatMap encT_target_Sheet x17), .blk b48 141 [.slice A170 y96.length c171, .int .i64 y97, .int .u32 y98], .blk b10 141 [.slice A31 x18.bytes.length c32, .int .i64 x18.next, .int .u32 x18.state]] W207 := hS213
  have q := th187 _ _ _ le212 hS214
  obtain ⟨φ215, le216, hS217⟩ := q
  have hS218 : St ⟨w, [], φ⟩ φ215 [.row A172 c173 3 1 (List.flatMap encI y99), .row A29 c30 31 4 (List.flatMap encT_target_Sheet x17), .blk b48 141 [.slice A170 y96.length c171, .int .i64 y97, .int .u32 y98], .blk b10 141 [.slice A31 x18.bytes.length c32, .int .i64 x18.next, .int .u32 x18.state]] W207 := hS217
  refine OKS.rm rfl rfl rfl rfl rfl rfl ?_
  refine OKS.r rfl rfl rfl rfl (fun _ => Runs.ext rfl rfl (v := .bool x200) rfl) ?_
  refine OKS.r rfl rfl rfl rfl (fun _ => Runs.ext rfl rfl (v := .int .i64 x201) rfl) ?_
  refine OKS.ra rfl rfl rfl rfl rfl rfl ?_
  refine OKS.ra rfl rfl rfl rfl rfl rfl ?_
  refine OKS.e ?_
  refine thenQ_n ?_
  refine CK.seq ?_
  refine CK.seq ?_
  refine CK.reg (ks := []) (.fl 0 (.fl 1 (.nil))) rfl ?_
  refine OKS.rm rfl rfl rfl rfl rfl rfl ?_
  refine OKS.r rfl rfl rfl rfl (fun _ => Runs.neq rfl rfl rfl) ?_
  refine OKS.e ?_
  refine thenQ_n ?_
  by_cases c219 : x201 = 0
  ·have hm220 := hm203; rw [if_pos c219] at hm220; replace c219 := Hid.mk c219
   refine CK.condF (decF (fun h => h c219.out)) ?_
   refine CK.skip ?_
   refine thenQ_n ?_
   refine CK.seq ?_
   refine CK.seq ?_
   refine CK.reg (ks := []) (.fl 0 (.nil)) rfl ?_
   refine OKS.rm rfl rfl rfl rfl rfl rfl ?_
   refine OKS.e ?_
   refine thenQ_n ?_
   refine CK.block ?_
   have q := jn_some hm220
   obtain ⟨r244, hX245⟩ := q
   have q := forR_le hX245
   obtain ⟨hle246, hf247⟩ := q
   replace hle246 := Hid.mk hle246
   refine CK.forN (fun k243 (l238, x241, x242) σ_ w_ => ∃ (φ_ : PHeap) (A239 : Option Addr) (c240 : Nat), σ_ 61 = .int .i64 (↑k243 : Int) ∧ σ_ 2 = .int .u8 p2 ∧ σ_ 3 = .int .u8 p3 ∧ σ_ 9 = .slice A27 x16.length c28 ∧ σ_ 10 = .slice A29 x17.length c30 ∧ σ_ 11 = .int .i64 (↑x16.length : Int) ∧ σ_ 12 = .pointer (some ⟨b48, 0, none⟩) ∧ σ_ 13 = .slice A172 y99.length c173 ∧ σ_ 14 = .bool x200 ∧ PHeap.Le φ215 φ_ ∧ St ⟨w, [], φ⟩ φ_ [.blk b48 141 [.slice A239 l238.length c240, .int .i64 x241, .int .u32 x242], .blk b10 141 [.slice A31 x18.bytes.length c32, .int .i64 x18.next, .int .u32 x18.state], .row A29 c30 31 4 (List.flatMap encT_target_Sheet x17), .row A172 c173 3 1 (List.flatMap encI y99)] w_ ∧ Sl φ_ 1 A239 c240 l238.length (List.flatMap encB8 l238)) hf247 ?_ ?_ ?_
   ·have h248 := h185.le le216
    exact ⟨φ215, A170, c171, rfl, f177, f178, f179, f180, f181, f182, f183, rfl, (PHeap.Le.refl _), (hS218.pick [2, 3, 1, 0] _ (by decide) rfl), h248⟩
   ·rintro k243 ⟨l238, x241, x242⟩ xx251 σ249 W250 hk254 ⟨φ256, A239, c240, fi255, f259, f260, f261, f262, f263, f264, f265, f266, le257, hS258, h267⟩ hx252 hb253
    try dsimp only at hx252
    have c268 : Hid ((↑k243 : Int) < 6) := Hid.mk (lp_lt0 hk254)
    replace hk254 := Hid.mk hk254
    have hi269 : Hid (w64 ((↑k243 : Int) + 1) = (↑(k243 + 1) : Int)) := Hid.mk (by have h1 := hle246.out; have h2 := c268.out; rw [w64_in] <;> omega)
    refine CK.seq ?_
    refine CK.reg (ks := []) (.fl 0 (.nil)) rfl ?_
    refine OKS.r rfl rfl rfl rfl (fun _ => Runs.lss rfl fi255 rfl) ?_
    refine OKS.e ?_
    refine thenQ_n ?_
    refine CK.seq ?_
    refine CK.condT (decT c268.out) ?_
    refine CK.skip ?_
    refine thenQ_n ?_
    refine CK.seq ?_
    refine CK.block ?_
    refine CK.seq ?_
    refine CK.reg (ks := []) (.fl 0 (.nil)) rfl ?_
    refine OKS.ra rfl rfl rfl rfl rfl rfl ?_
    refine OKS.e ?_
    refine thenQ_n ?_
    refine CK.seq ?_
    refine CK.seq ?_
    refine CK.reg (ks := []) (.fl 0 (.fx 1 (.fl 2 (.nil)) .stop)) rfl ?_
    refine OKS.rm rfl rfl rfl rfl rfl f264 ?_
    have q := bnd hx252
    obtain ⟨⟨x270, x271⟩, h272, hm273⟩ := q
    try dsimp only at hm273
    refine OKS.callH 1 rfl rfl rfl rfl (Enters.mk rfl rfl Try.call30 (mapcons rfl (mapcons rfl (mapcons rfl mapnil))) rfl) hS258 (fun hs => w_klisterkit_Deck_Between (⟨l238, x241, x242⟩ : T_klisterkit_Deck) b48 A239 c240 1 4 W250 φ256 hs h267 h272) (.inl rfl) ?_
    rintro φ274 L275 v276 W277 le278 hS279 ⟨A280, c281, rfl, rfl, h282⟩
    have hS283 : St ⟨w, [], φ⟩ φ274 [.blk b48 141 [.slice A280 x271.bytes.length c281, .int .i64 x271.next, .int .u32 x271.state], .blk b10 141 [.slice A31 x18.bytes.length c32, .int .i64 x18.next, .int .u32 x18.state], .row A29 c30 31 4 (List.flatMap encT_target_Sheet x17), .row A172 c173 3 1 (List.flatMap encI y99)] W277 := hS279
    refine OKS.rm rfl rfl rfl rfl rfl rfl ?_
    refine OKS.e ?_
    refine thenQ_n ?_
    refine CK.block ?_
    have q := bnd hm273
    obtain ⟨⟨y326, y327, y328, y329⟩, hf323, hm322⟩ := q
    try dsimp only at hm322
    have q := forR'_le hf323
    obtain ⟨hle324, hf325⟩ := q
    replace hle324 := Hid.mk hle324
    refine CK.forN' (fun k321 (l312, x315, x316, l317) σ_ w_ => ∃ (φ_ : PHeap) (A313 : Option Addr) (c314 : Nat) (A318 : Option Addr) (c319 : Nat), σ_ 65 = .int .i64 (↑k321 : Int) ∧ σ_ 2 = .int .u8 p2 ∧ σ_ 3 = .int .u8 p3 ∧ σ_ 9 = .slice A27 x16.length c28 ∧ σ_ 10 = .slice A29 x17.length c30 ∧ σ_ 11 = .int .i64 (↑x16.length : Int) ∧ σ_ 12 = .pointer (some ⟨b48, 0, none⟩) ∧ σ_ 13 = .slice A172 y99.length c173 ∧ σ_ 14 = .bool x200 ∧ σ_ 16 = .slice A318 l317.length c319 ∧ σ_ 61 = .int .i64 (↑k243 : Int) ∧ σ_ 64 = .int .i64 x270 ∧ PHeap.Le φ274 φ_ ∧ St ⟨w, [], φ⟩ φ_ [.blk b48 141 [.slice A313 l312.length c314, .int .i64 x315, .int .u32 x316], .blk b10 141 [.slice A31 x18.bytes.length c32, .int .i64 x18.next, .int .u32 x18.state], .row A29 c30 31 4 (List.flatMap encT_target_Sheet x17), .row A172 c173 3 1 (List.flatMap encI y99), .row A318 c319 35 2 (List.flatMap encT_target_Step l317)] w_ ∧ Sl φ_ 1 A313 c314 l312.length (List.flatMap encB8 l312)) hf325 ?_ ?_ ?_
    ·have hS330 := hS283.nilrow 35 2
     exact ⟨φ274, A280, c281, none, 0, rfl, f259, f260, f261, f262, f263, f264, f265, f266, rfl, fi255, rfl, (PHeap.Le.refl _), (hS330.pick [1, 2, 3, 4, 0] _ (by decide) rfl), h282⟩
    ·rintro k321 ⟨l312, x315, x316, l317⟩ xx334 σ332 W333 hk337 ⟨φ339, A313, c314, A318, c319, fi338, f342, f343, f344, f345, f346, f347, f348, f349, f350, f351, f352, le340, hS341, h353⟩ hx335
     try dsimp only at hx335
     have c354 : Hid ((↑k321 : Int) < x270) := Hid.mk (lp_lt0 hk337)
     replace hk337 := Hid.mk hk337
     have hi355 : Hid (w64 ((↑k321 : Int) + 1) = (↑(k321 + 1) : Int)) := Hid.mk (by have h1 := hle324.out; have h2 := c354.out; rw [w64_in] <;> omega)
     refine CK.seq ?_
     refine CK.reg (ks := []) (.fl 0 (.nil)) rfl ?_
     refine OKS.r rfl rfl rfl rfl (fun _ => Runs.lss rfl fi338 f352) ?_
     refine OKS.e ?_
     refine thenQ_n ?_
     refine CK.seq ?_
     refine CK.condT (decT c354.out) ?_
     refine CK.skip ?_
     refine thenQ_n ?_
     refine CK.seq ?_
     refine CK.block ?_
     refine CK.seq ?_
     refine CK.reg (ks := []) (.fl 0 (.fx 1 (.fl 2 (.fx 3 (.fx 4 (.nil) .stop) .stop)) .stop)) rfl ?_
     refine OKS.rm rfl rfl rfl rfl rfl f347 ?_
     have q := bnd hx335
     obtain ⟨⟨x356, x357⟩, h358, hm359⟩ := q
     try dsimp only at hm359
     refine OKS.callH 1 rfl rfl rfl rfl (Enters.mk rfl rfl Try.call29 (mapcons rfl (mapcons rfl mapnil)) rfl) hS341 (fun hs => w_klisterkit_Deck_Draw (⟨l312, x315, x316⟩ : T_klisterkit_Deck) b48 A313 c314 5 W333 φ339 hs h353 h358) (.inl rfl) ?_
     rintro φ360 L361 v362 W363 le364 hS365 ⟨A366, c367, rfl, rfl, h368⟩
     have hS369 : St ⟨w, [], φ⟩ φ360 [.blk b48 141 [.slice A366 x357.bytes.length c367, .int .i64 x357.next, .int .u32 x357.state], .blk b10 141 [.slice A31 x18.bytes.length c32, .int .i64 x18.next, .int .u32 x18.state], .row A29 c30 31 4 (List.flatMap encT_target_Sheet x17), .row A172 c173 3 1 (List.flatMap encI y99), .row A318 c319 35 2 (List.flatMap encT_target_Step l317)] W363 := hS365
     refine OKS.r rfl rfl rfl rfl (fun _ => Runs.build (pv := [(0, .int .i64 x356)]) (z := [.int .i64 0, .int .i64 0]) (cs := [.int .i64 x356, .int .i64 0]) rfl (mapcons2 rfl mapnil2) Try.zeroValue35 places35 rfl rfl) ?_
     refine OKS.alloc (cs := [.int .i64 0, .int .i64 0]) rfl rfl rfl rfl rfl Try.zeroValue35 rfl hS369 ?_
     intro W370 b371 hS372
     refine OKS.st (j := 0) (vs := [.int .i64 x356, .int .i64 0]) rfl rfl rfl rfl hS372 rfl rfl rfl rfl Try.sizeOf35 (Nat.le_of_ble_eq_true rfl) rfl rfl rfl ?_
     intro W374 hS375
     have hS376 : St ⟨w, [], φ⟩ φ360 [.blk b371 35 [.int .i64 x356, .int .i64 0], .blk b48 141 [.slice A366 x357.bytes.length c367, .int .i64 x357.next, .int .u32 x357.state], .blk b10 141 [.slice A31 x18.bytes.length c32, .int .i64 x18.next, .int .u32 x18.state], .row A29 c30 31 4 (List.flatMap encT_target_Sheet x17), .row A172 c173 3 1 (List.flatMap encI y99), .row A318 c319 35 2 (List.flatMap encT_target_Step l317)] W374 := hS375
     refine OKS.e ?_
     refine thenQ_n ?_
     refine CK.seq ?_
     refine CK.reg (ks := []) (.fl 0 (.fl 1 (.fx 2 (.fl 3 (.fx 4 (.nil) .stop)) .stop))) rfl ?_
     refine OKS.rm rfl rfl rfl rfl rfl f347 ?_
     refine OKS.rm rfl rfl rfl rfl rfl f346 ?_
     have q := bnd hm359
     obtain ⟨⟨x377, x378⟩, h379, hm380⟩ := q
     try dsimp only at hm380
     have hS381 : St ⟨w, [], φ⟩ φ360 [.blk b48 141 [.slice A366 x357.bytes.length c367, .int .i64 x357.next, .int .u32 x357.state], .blk b371 35 [.int .i64 x356, .int .i64 0], .blk b10 141 [.slice A31 x18.bytes.length c32, .int .i64 x18.next, .int .u32 x18.state], .row A29 c30 31 4 (List.flatMap encT_target_Sheet x17), .row A172 c173 3 1 (List.flatMap encI y99), .row A318 c319 35 2 (List.flatMap encT_target_Step l317)] W374 := hS376.pick [1, 0, 2, 3, 4, 5] _ (by decide) rfl
     refine OKS.callH 1 rfl rfl rfl rfl (Enters.mk rfl rfl Try.call29 (mapcons rfl (mapcons rfl mapnil)) rfl) hS381 (fun hs => w_klisterkit_Deck_Draw x357 b48 A366 c367 (↑x16.length : Int) W374 φ360 hs h368 h379) (.inl rfl) ?_
     rintro φ382 L383 v384 W385 le386 hS387 ⟨A388, c389, rfl, rfl, h390⟩
     have hS391 : St ⟨w, [], φ⟩ φ382 [.blk b48 141 [.slice A388 x378.bytes.length c389, .int .i64 x378.next, .int .u32 x378.state], .blk b371 35 [.int .i64 x356, .int .i64 0], .blk b10 141 [.slice A31 x18.bytes.length c32, .int .i64 x18.next, .int .u32 x18.state], .row A29 c30 31 4 (List.flatMap encT_target_Sheet x17), .row A172 c173 3 1 (List.flatMap encI y99), .row A318 c319 35 2 (List.flatMap encT_target_Step l317)] W385 := hS387
     refine OKS.r rfl rfl rfl rfl (fun _ => Runs.fa rfl rfl Try.runUnderlying35 rfl Try.sizeOf3) ?_
     refine OKS.st (j := 1) (vs := [.int .i64 x377]) rfl rfl rfl rfl hS391 rfl rfl rfl rfl Try.sizeOf3 (Nat.le_of_ble_eq_true rfl) rfl rfl rfl ?_
     intro W392 hS393
     have hS394 : St ⟨w, [], φ⟩ φ382 [.blk b48 141 [.slice A388 x378.bytes.length c389, .int .i64 x378.next, .int .u32 x378.state], .blk b371 35 [.int .i64 x356, .int .i64 x377], .blk b10 141 [.slice A31 x18.bytes.length c32, .int .i64 x18.next, .int .u32 x18.state], .row A29 c30 31 4 (List.flatMap encT_target_Sheet x17), .row A172 c173 3 1 (List.flatMap encI y99), .row A318 c319 35 2 (List.flatMap encT_target_Step l317)] W392 := hS393
     refine OKS.e ?_
     refine thenQ_n ?_
     refine CK.seq ?_
     have q := bnd hm380
     obtain ⟨b395, hx397, hm398⟩ := q
     refine CK.cut (fun σ_ w_ => ∃ (φ_ : PHeap), σ_ 2 = .int .u8 p2 ∧ σ_ 3 = .int .u8 p3 ∧ σ_ 9 = .slice A27 x16.length c28 ∧ σ_ 10 = .slice A29 x17.length c30 ∧ σ_ 11 = .int .i64 (↑x16.length : Int) ∧ σ_ 12 = .pointer (some ⟨b48, 0, none⟩) ∧ σ_ 13 = .slice A172 y99.length c173 ∧ σ_ 14 = .bool x200 ∧ σ_ 16 = .slice A318 l317.length c319 ∧ σ_ 17 = .pointer (some ⟨b371, 0, none⟩) ∧ σ_ 61 = .int .i64 (↑k243 : Int) ∧ σ_ 64 = .int .i64 x270 ∧ σ_ 65 = .int .i64 (↑k321 : Int) ∧ σ_ 81 = .bool b395 ∧ PHeap.Le φ382 φ_ ∧ St ⟨w, [], φ⟩ φ_ [.blk b48 141 [.slice A388 x378.bytes.length c389, .int .i64 x378.next, .int .u32 x378.state], .blk b371 35 [.int .i64 x356, .int .i64 x377], .blk b10 141 [.slice A31 x18.bytes.length c32, .int .i64 x18.next, .int .u32 x18.state], .row A29 c30 31 4 (List.flatMap encT_target_Sheet x17), .row A172 c173 3 1 (List.flatMap encI y99), .row A318 c319 35 2 (List.flatMap encT_target_Step l317)] w_) ?_ ?_
     ·refine CK.reg (ks := []) (.fl 0 (.fl 1 (.fl 2 (.fl 3 (.fl 4 (.fl 5 (.fl 6 (.fl 7 (.nil))))))))) rfl ?_
      refine OKS.r rfl rfl rfl rfl (fun _ => Runs.fa rfl rfl Try.runUnderlying35 rfl Try.sizeOf33) ?_
      refine OKS.m rfl rfl rfl rfl (hS394.ldB (j := 1) rfl rfl rfl Try.isAgg33 (v := .int .i64 x356) rfl) rfl ?_
      refine OKS.r rfl rfl rfl rfl (fun _ => Runs.eql rfl rfl rfl) ?_
      refine OKS.rm rfl rfl rfl rfl rfl rfl ?_
      by_cases c399 : x356 = 0
      ·have hm400 := hx397; rw [if_pos c399] at hm400; replace c399 := Hid.mk c399
       refine OKS.p rfl rfl rfl (wantedN rfl rfl (decT c399.out) rfl) ?_
       refine OKS.p rfl rfl rfl (wantedN rfl rfl (decT c399.out) rfl) ?_
       refine OKS.p rfl rfl rfl (wantedN rfl rfl (decT c399.out) rfl) ?_
       refine OKS.r rfl rfl rfl rfl (fun _ => Runs.pickT rfl (decT c399.out) rfl) ?_
       refine OKS.e ?_
       cases hm400
       exact thenQ_n ⟨rfl, ⟨φ382, f342, f343, f344, f345, f346, f347, f348, f349, f350, rfl, f351, f352, fi338, rfl, (PHeap.Le.refl _), hS394⟩⟩
      ·have hm402 := hx397; rw [if_neg c399] at hm402; replace c399 := Hid.mk c399
       refine OKS.r rfl rfl rfl (wantedY rfl rfl (decF c399.out)) (fun _ => Runs.fa rfl rfl Try.runUnderlying35 rfl Try.sizeOf33) ?_
       refine OKS.m rfl rfl rfl (wantedY rfl rfl (decF c399.out)) (hS394.ldB (j := 1) rfl rfl rfl Try.isAgg33 (v := .int .i64 x356) rfl) rfl ?_
       refine OKS.r rfl rfl rfl (wantedY rfl rfl (decF c399.out)) (fun _ => Runs.eql rfl rfl rfl) ?_
       refine OKS.r rfl rfl rfl rfl (fun _ => Runs.pickF rfl (decF c399.out) rfl) ?_
       refine OKS.e ?_
       cases hm402
       exact thenQ_n ⟨rfl, ⟨φ382, f342, f343, f344, f345, f346, f347, f348, f349, f350, rfl, f351, f352, fi338, rfl, (PHeap.Le.refl _), hS394⟩⟩
     ·rintro σ404 W405 ⟨φ406, f409, f410, f411, f412, f413, f414, f415, f416, f417, f418, f419, f420, f421, f422, le407, hS408⟩
      by_cases c423 : b395 = true
      ·have hm424 := hm398; rw [if_pos c423] at hm424; replace c423 := Hid.mk c423
       refine CK.condT (f422.trans (congrArg Value.bool c423.out)) ?_
       refine CK.seq ?_
       refine CK.reg (ks := []) (.fl 0 (.fl 1 (.fl 2 (.fx 3 (.fl 4 (.fx 5 (.nil) .stop)) .stop)))) rfl ?_
       refine OKS.rm rfl rfl rfl rfl rfl f414 ?_
       refine OKS.rm rfl rfl rfl rfl rfl f412 ?_
       refine OKS.r rfl rfl rfl rfl (fun _ => Runs.len rfl rfl Try.runUnderlying23) ?_
       have h425 := h390.le le407
       have q := bnd hm424
       obtain ⟨⟨x426, x427⟩, h428, hm429⟩ := q
       try dsimp only at hm429
       refine OKS.callH 1 rfl rfl rfl rfl (Enters.mk rfl rfl Try.call29 (mapcons rfl (mapcons rfl mapnil)) rfl) hS408 (fun hs => w_klisterkit_Deck_Draw x378 b48 A388 c389 (↑x17.length : Int) W405 φ406 hs h425 h428) (.inl rfl) ?_
       rintro φ430 L431 v432 W433 le434 hS435 ⟨A436, c437, rfl, rfl, h438⟩
       have hS439 : St ⟨w, [], φ⟩ φ430 [.blk b48 141 [.slice A436 x427.bytes.length c437, .int .i64 x427.next, .int .u32 x427.state], .blk b371 35 [.int .i64 x356, .int .i64 x377], .blk b10 141 [.slice A31 x18.bytes.length c32, .int .i64 x18.next, .int .u32 x18.state], .row A29 c30 31 4 (List.flatMap encT_target_Sheet x17), .row A172 c173 3 1 (List.flatMap encI y99), .row A318 c319 35 2 (List.flatMap encT_target_Step l317)] W433 := hS435
       refine OKS.r rfl rfl rfl rfl (fun _ => Runs.fa rfl f418 Try.runUnderlying35 rfl Try.sizeOf3) ?_
       refine OKS.st (j := 1) (vs := [.int .i64 x426]) rfl rfl rfl rfl hS439 rfl rfl rfl rfl Try.sizeOf3 (Nat.le_of_ble_eq_true rfl) rfl rfl rfl ?_
       intro W440 hS441
       have hS442 : St ⟨w, [], φ⟩ φ430 [.blk b48 141 [.slice A436 x427.bytes.length c437, .int .i64 x427.next, .int .u32 x427.state], .blk b371 35 [.int .i64 x356, .int .i64 x426], .blk b10 141 [.slice A31 x18.bytes.length c32, .int .i64 x18.next, .int .u32 x18.state], .row A29 c30 31 4 (List.flatMap encT_target_Sheet x17), .row A172 c173 3 1 (List.flatMap encI y99), .row A318 c319 35 2 (List.flatMap encT_target_Step l317)] W440 := hS441
       refine OKS.e ?_
       refine thenQ_n ?_
       refine CK.seq ?_
       refine CK.reg (ks := []) (.fl 0 (.fl 1 (.fl 2 (.nil)))) rfl ?_
       refine OKS.rm rfl rfl rfl rfl rfl f412 ?_
       refine OKS.r rfl rfl rfl rfl (fun _ => Runs.len rfl rfl Try.runUnderlying23) ?_
       refine OKS.r rfl rfl rfl rfl (fun _ => Runs.eql rfl rfl rfl) ?_
       refine OKS.e ?_
       refine thenQ_n ?_
       by_cases c443 : (↑x17.length : Int) = 0
       ·have hm444 := hm429; rw [if_pos c443] at hm444; replace c443 := Hid.mk c443
        refine CK.condT (decT c443.out) ?_
        refine CK.reg (ks := []) (.fl 0 (.fx 1 (.nil) .stop)) rfl ?_
        refine OKS.r rfl rfl rfl rfl (fun _ => Runs.build (pv := [(0, .int .i64 4)]) (z := [.int .i64 0, .int .i64 0]) (cs := [.int .i64 4, .int .i64 0]) rfl (mapcons2 rfl mapnil2) Try.zeroValue35 places35 rfl rfl) ?_
        refine OKS.st (j := 1) (vs := [.int .i64 4, .int .i64 0]) rfl rfl rfl rfl hS442 rfl f418 rfl rfl Try.sizeOf35 (Nat.le_of_ble_eq_true rfl) rfl rfl rfl ?_
        intro W445 hS446
        have hS447 : St ⟨w, [], φ⟩ φ430 [.blk b48 141 [.slice A436 x427.bytes.length c437, .int .i64 x427.next, .int .u32 x427.state], .blk b371 35 [.int .i64 4, .int .i64 0], .blk b10 141 [.slice A31 x18.bytes.length c32, .int .i64 x18.next, .int .u32 x18.state], .row A29 c30 31 4 (List.flatMap encT_target_Sheet x17), .row A172 c173 3 1 (List.flatMap encI y99), .row A318 c319 35 2 (List.flatMap encT_target_Step l317)] W445 := hS446
        refine OKS.e ?_
        refine thenQ_n ?_
        refine CK.reg (ks := []) (.fl 0 (.fl 1 (.fx 2 (.fx 3 (.fl 4 (.nil)) .stop) .stop))) rfl ?_
        refine OKS.rm rfl rfl rfl rfl rfl f417 ?_
        refine OKS.m rfl rfl rfl rfl (hS447.ldBA (j := 1) rfl rfl f418 Try.isAgg35 Try.sizeOf35 (vs := [.int .i64 4, .int .i64 0]) rfl rfl) rfl ?_
        refine OKS.buildSlice (pv := [(0, .agg #[.int .i64 4, .int .i64 0])]) (zs := [.int .i64 0, .int .i64 0]) (cs := [.int .i64 4, .int .i64 0]) rfl rfl rfl rfl rfl (mapcons2 rfl mapnil2) Try.runUnderlying24 Try.sizeOf35 Try.zeroValue35 rfl rfl rfl rfl rfl hS447 ?_
        intro W448 b449 hS450
        have hS452 : St ⟨w, [], φ⟩ φ430 [.row (some ⟨b449, 0, none⟩) 1 35 2 (List.flatMap encT_target_Step [(⟨4, 0⟩ : T_target_Step)]), .blk b48 141 [.slice A436 x427.bytes.length c437, .int .i64 x427.next, .int .u32 x427.state], .blk b371 35 [.int .i64 4, .int .i64 0], .blk b10 141 [.slice A31 x18.bytes.length c32, .int .i64 x18.next, .int .u32 x18.state], .row A29 c30 31 4 (List.flatMap encT_target_Sheet x17), .row A172 c173 3 1 (List.flatMap encI y99), .row A318 c319 35 2 (List.flatMap encT_target_Step l317)] W448 := hS450
        have q := bnd hm444
        obtain ⟨x453, h454, hm455⟩ := q
        refine OKS.append (j := 6) (enc := encT_target_Step) (xs := l317) (ys := [(⟨4, 0⟩ : T_target_Step)]) (zs := x453) rfl rfl rfl rfl rfl Try.underlying24 info35 rfl rfl rfl rfl rfl rfl hS452 rfl rfl rfl (hS452.srcR (j := 0) rfl (by decide) (flatMap_len (f := encT_target_Step) (sz := 2) (fun _ => rfl) [(⟨4, 0⟩ : T_target_Step)])) (fun _ => rfl) (fun _ => rfl) h454 rfl ?_
        intro A456 c457 W458 hS459
        have hS460 : St ⟨w, [], φ⟩ φ430 [.row (some ⟨b449, 0, none⟩) 1 35 2 (List.flatMap encT_target_Step [(⟨4, 0⟩ : T_target_Step)]), .blk b48 141 [.slice A436 x427.bytes.length c437, .int .i64 x427.next, .int .u32 x427.state], .blk b371 35 [.int .i64 4, .int .i64 0], .blk b10 141 [.slice A31 x18.bytes.length c32, .int .i64 x18.next, .int .u32 x18.state], .row A29 c30 31 4 (List.flatMap encT_target_Sheet x17), .row A172 c173 3 1 (List.flatMap encI y99), .row A456 c457 35 2 (List.flatMap encT_target_Step x453)] W458 := hS459
        refine OKS.ra rfl rfl rfl rfl rfl rfl ?_
        refine OKS.e ?_
        refine blockQ_n ?_
        refine thenQ_n ?_
        refine CK.reg (ks := []) (.fl 0 (.fl 1 (.nil))) rfl ?_
        refine OKS.r rfl rfl rfl rfl (fun _ => Runs.to (Runs.addw rfl f421 rfl) (congrArg (Value.int .i64) hi355.out)) ?_
        refine OKS.rm rfl rfl rfl rfl rfl rfl ?_
        refine OKS.e ?_
        cases hm455
        exact thenQ_n ⟨rfl, ⟨φ430, A436, c437, A456, c457, rfl, f409, f410, f411, f412, f413, f414, f415, f416, rfl, f419, f420, ((((le340.trans le364).trans le386).trans le407).trans le434), (hS460.pick [1, 3, 4, 5, 6] _ (by decide) rfl), h438⟩⟩
       ·have hm469 := hm429; rw [if_neg c443] at hm469; replace c443 := Hid.mk c443
        refine CK.condF (decF c443.out) ?_
        refine CK.skip ?_
        refine thenQ_n ?_
        refine CK.reg (ks := []) (.fl 0 (.fl 1 (.fx 2 (.fx 3 (.fl 4 (.nil)) .stop) .stop))) rfl ?_
        refine OKS.rm rfl rfl rfl rfl rfl f417 ?_
        refine OKS.m rfl rfl rfl rfl (hS442.ldBA (j := 1) rfl rfl f418 Try.isAgg35 Try.sizeOf35 (vs := [.int .i64 x356, .int .i64 x426]) rfl rfl) rfl ?_
        refine OKS.buildSlice (pv := [(0, .agg #[.int .i64 x356, .int .i64 x426])]) (zs := [.int .i64 0, .int .i64 0]) (cs := [.int .i64 x356, .int .i64 x426]) rfl rfl rfl rfl rfl (mapcons2 rfl mapnil2) Try.runUnderlying24 Try.sizeOf35 Try.zeroValue35 rfl rfl rfl rfl rfl hS442 ?_
        intro W470 b471 hS472
        have hS474 : St ⟨w, [], φ⟩ φ430 [.row (some ⟨b471, 0, none⟩) 1 35 2 (List.flatMap encT_target_Step [(⟨x356, x426⟩ : T_target_Step)]), .blk b48 141 [.slice A436 x427.bytes.length c437, .int .i64 x427.next, .int .u32 x427.state], .blk b371 35 [.int .i64 x356, .int .i64 x426], .blk b10 141 [.slice A31 x18.bytes.length c32, .int .i64 x18.next, .int .u32 x18.state], .row A29 c30 31 4 (List.flatMap encT_target_Sheet x17), .row A172 c173 3 1 (List.flatMap encI y99), .row A318 c319 35 2 (List.flatMap encT_target_Step l317)] W470 := hS472
        have q := bnd hm469
        obtain ⟨x475, h476, hm477⟩ := q
        refine OKS.append (j := 6) (enc := encT_target_Step) (xs := l317) (ys := [(⟨x356, x426⟩ : T_target_Step)]) (zs := x475) rfl rfl rfl rfl rfl Try.underlying24 info35 rfl rfl rfl rfl rfl rfl hS474 rfl rfl rfl (hS474.srcR (j := 0) rfl (by decide) (flatMap_len (f := encT_target_Step) (sz := 2) (fun _ => rfl) [(⟨x356, x426⟩ : T_target_Step)])) (fun _ => rfl) (fun _ => rfl) h476 rfl ?_
        intro A478 c479 W480 hS481
        have hS482 : St ⟨w, [], φ⟩ φ430 [.row (some ⟨b471, 0, none⟩) 1 35 2 (List.flatMap encT_target_Step [(⟨x356, x426⟩ : T_target_Step)]), .blk b48 141 [.slice A436 x427.bytes.length c437, .int .i64 x427.next, .int .u32 x427.state], .blk b371 35 [.int .i64 x356, .int .i64 x426], .blk b10 141 [.slice A31 x18.bytes.length c32, .int .i64 x18.next, .int .u32 x18.state], .row A29 c30 31 4 (List.flatMap encT_target_Sheet x17), .row A172 c173 3 1 (List.flatMap encI y99), .row A478 c479 35 2 (List.flatMap encT_target_Step x475)] W480 := hS481
        refine OKS.ra rfl rfl rfl rfl rfl rfl ?_
        refine OKS.e ?_
        refine blockQ_n ?_
        refine thenQ_n ?_
        refine CK.reg (ks := []) (.fl 0 (.fl 1 (.nil))) rfl ?_
        refine OKS.r rfl rfl rfl rfl (fun _ => Runs.to (Runs.addw rfl f421 rfl) (congrArg (Value.int .i64) hi355.out)) ?_
        refine OKS.rm rfl rfl rfl rfl rfl rfl ?_
        refine OKS.e ?_
        cases hm477
        exact thenQ_n ⟨rfl, ⟨φ430, A436, c437, A478, c479, rfl, f409, f410, f411, f412, f413, f414, f415, f416, rfl, f419, f420, ((((le340.trans le364).trans le386).trans le407).trans le434), (hS482.pick [1, 3, 4, 5, 6] _ (by decide) rfl), h438⟩⟩
      ·have hm491 := hm398; rw [if_neg c423] at hm491; replace c423 := Hid.mk c423
       refine CK.condF (f422.trans (congrArg Value.bool (Bool.eq_false_iff.2 c423.out))) ?_
       refine CK.skip ?_
       refine thenQ_n ?_
       refine CK.reg (ks := []) (.fl 0 (.fl 1 (.fx 2 (.fx 3 (.fl 4 (.nil)) .stop) .stop))) rfl ?_
       refine OKS.rm rfl rfl rfl rfl rfl f417 ?_
       refine OKS.m rfl rfl rfl rfl (hS408.ldBA (j := 1) rfl rfl f418 Try.isAgg35 Try.sizeOf35 (vs := [.int .i64 x356, .int .i64 x377]) rfl rfl) rfl ?_
       refine OKS.buildSlice (pv := [(0, .agg #[.int .i64 x356, .int .i64 x377])]) (zs := [.int .i64 0, .int .i64 0]) (cs := [.int .i64 x356, .int .i64 x377]) rfl rfl rfl rfl rfl (mapcons2 rfl mapnil2) Try.runUnderlying24 Try.sizeOf35 Try.zeroValue35 rfl rfl rfl rfl rfl hS408 ?_
       intro W492 b493 hS494
       have hS496 : St ⟨w, [], φ⟩ φ406 [.row (some ⟨b493, 0, none⟩) 1 35 2 (List.flatMap encT_target_Step [(⟨x356, x377⟩ : T_target_Step)]), .blk b48 141 [.slice A388 x378.bytes.length c389, .int .i64 x378.next, .int .u32 x378.state], .blk b371 35 [.int .i64 x356, .int .i64 x377], .blk b10 141 [.slice A31 x18.bytes.length c32, .int .i64 x18.next, .int .u32 x18.state], .row A29 c30 31 4 (List.flatMap encT_target_Sheet x17), .row A172 c173 3 1 (List.flatMap encI y99), .row A318 c319 35 2 (List.flatMap encT_target_Step l317)] W492 := hS494
       have q := bnd hm491
       obtain ⟨x497, h498, hm499⟩ := q
       refine OKS.append (j := 6) (enc := encT_target_Step) (xs := l317) (ys := [(⟨x356, x377⟩ : T_target_Step)]) (zs := x497) rfl rfl rfl rfl rfl Try.underlying24 info35 rfl rfl rfl rfl rfl rfl hS496 rfl rfl rfl (hS496.srcR (j := 0) rfl (by decide) (flatMap_len (f := encT_target_Step) (sz := 2) (fun _ => rfl) [(⟨x356, x377⟩ : T_target_Step)])) (fun _ => rfl) (fun _ => rfl) h498 rfl ?_
       intro A500 c501 W502 hS503
       have hS504 : St ⟨w, [], φ⟩ φ406 [.row (some ⟨b493, 0, none⟩) 1 35 2 (List.flatMap encT_target_Step [(⟨x356, x377⟩ : T_target_Step)]), .blk b48 141 [.slice A388 x378.bytes.length c389, .int .i64 x378.next, .int .u32 x378.state], .blk b371 35 [.int .i64 x356, .int .i64 x377], .blk b10 141 [.slice A31 x18.bytes.length c32, .int .i64 x18.next, .int .u32 x18.state], .row A29 c30 31 4 (List.flatMap encT_target_Sheet x17), .row A172 c173 3 1 (List.flatMap encI y99), .row A500 c501 35 2 (List.flatMap encT_target_Step x497)] W502 := hS503
       refine OKS.ra rfl rfl rfl rfl rfl rfl ?_
       refine OKS.e ?_
       refine blockQ_n ?_
       refine thenQ_n ?_
       refine CK.reg (ks := []) (.fl 0 (.fl 1 (.nil))) rfl ?_
       refine OKS.r rfl rfl rfl rfl (fun _ => Runs.to (Runs.addw rfl f421 rfl) (congrArg (Value.int .i64) hi355.out)) ?_
       refine OKS.rm rfl rfl rfl rfl rfl rfl ?_
       refine OKS.e ?_
       cases hm499
       have h513 := h390.le le407
       exact thenQ_n ⟨rfl, ⟨φ406, A388, c389, A500, c501, rfl, f409, f410, f411, f412, f413, f414, f415, f416, rfl, f419, f420, (((le340.trans le364).trans le386).trans le407), (hS504.pick [1, 3, 4, 5, 6] _ (by decide) rfl), h513⟩⟩
    ·rintro σ514 W515 ⟨φ530, A526, c527, A528, c529, fi517, f533, f534, f535, f536, f537, f538, f539, f540, f541, f542, f543, le531, hS532, h544⟩
     have c545 : Hid (¬ ((↑((x270 : Int) - 0).toNat : Int) < x270)) := Hid.mk (lp_end0)
     refine CK.seq ?_
     refine CK.reg (ks := []) (.fl 0 (.nil)) rfl ?_
     refine OKS.r rfl rfl rfl rfl (fun _ => Runs.lss rfl fi517 f543) ?_
     refine OKS.e ?_
     refine thenQ_n ?_
     refine CK.seq ?_
     refine CK.condF (decF c545.out) ?_
     refine CK.exit ?_
     refine thenQ_e ?_
     refine thenQ_e ?_
     refine blockQ_h ?_
     refine thenQ_n ?_
     refine CK.seq ?_
     refine CK.reg (ks := []) (.fl 0 (.fl 1 (.fl 2 (.fx 3 (.fl 4 (.fl 5 (.fl 6 (.fl 7 (.fl 8 (.nil)))))) .stop)))) rfl ?_
     refine OKS.rm rfl rfl rfl rfl rfl f539 ?_
     refine OKS.rm rfl rfl rfl rfl rfl f536 ?_
     refine OKS.rm rfl rfl rfl rfl rfl f541 ?_
     have q := hS532.freezeT (k := 3) (n := y99.length) rfl (flatMap_len (f := encI) (sz := 1) (fun _ => rfl) y99) (by decide)
     obtain ⟨φ547, le548, hs549, hS550, th546⟩ := q
     have hS551 : St ⟨w, [], φ⟩ φ547 [.blk b48 141 [.slice A526 y326.length c527, .int .i64 y327, .int .u32 y328], .blk b10 141 [.slice A31 x18.bytes.length c32, .int .i64 x18.next, .int .u32 x18.state], .row A29 c30 31 4 (List.flatMap encT_target_Sheet x17), .row A528 c529 35 2 (List.flatMap encT_target_Step y329)] W515 := hS550
     have q := hS551.freezeT (k := 2) (n := x17.length) rfl (flatMap_len (f := encT_target_Sheet) (sz := 4) (fun _ => rfl) x17) (by decide)
     obtain ⟨φ553, le554, hs555, hS556, th552⟩ := q
     have hS557 : St ⟨w, [], φ⟩ φ553 [.blk b48 141 [.slice A526 y326.length c527, .int .i64 y327, .int .u32 y328], .blk b10 141 [.slice A31 x18.bytes.length c32, .int .i64 x18.next, .int .u32 x18.state], .row A528 c529 35 2 (List.flatMap encT_target_Step y329)] W515 := hS556
     have q := hS557.freezeT (k := 2) (n := y329.length) rfl (flatMap_len (f := encT_target_Step) (sz := 2) (fun _ => rfl) y329) (by decide)
     obtain ⟨φ559, le560, hs561, hS562, th558⟩ := q
     have hS563 : St ⟨w, [], φ⟩ φ559 [.blk b48 141 [.slice A526 y326.length c527, .int .i64 y327, .int .u32 y328], .blk b10 141 [.slice A31 x18.bytes.length c32, .int .i64 x18.next, .int .u32 x18.state]] W515 := hS562
     have h564 := hs549.le le554
     have h565 := h564.le le560
     have h566 := hs555.le le560
     have q := bnd hm322
     obtain ⟨⟨x567, x568⟩, h569, hm570⟩ := q
     try dsimp only at hm570
     refine OKS.callH 0 rfl rfl rfl rfl (Enters.mk rfl rfl Try.call17 (mapcons rfl (mapcons rfl (mapcons rfl mapnil))) rfl) hS563 (fun hs => w_target_RoundShows y99 A172 c173 x17 A29 c30 y329 A528 c529 W515 φ559 hs h565 h566 hs561 h569) (.inr rfl) ?_
     rintro φ571 L572 v573 W574 le575 hS576 ⟨rfl, rfl⟩
     have hS577 : St ⟨w, [], φ⟩ φ571 [.blk b48 141 [.slice A526 y326.length c527, .int .i64 y327, .int .u32 y328], .blk b10 141 [.slice A31 x18.bytes.length c32, .int .i64 x18.next, .int .u32 x18.state]] W574 := hS576
     have q := th558 _ _ _ le575 hS577
     obtain ⟨φ578, le579, hS580⟩ := q
     have hS581 : St ⟨w, [], φ⟩ φ578 [.row A528 c529 35 2 (List.flatMap encT_target_Step y329), .blk b48 141 [.slice A526 y326.length c527, .int .i64 y327, .int .u32 y328], .blk b10 141 [.slice A31 x18.bytes.length c32, .int .i64 x18.next, .int .u32 x18.state]] W574 := hS580
     have q := th552 _ _ _ le579 hS581
     obtain ⟨φ582, le583, hS584⟩ := q
     have hS585 : St ⟨w, [], φ⟩ φ582 [.row A29 c30 31 4 (List.flatMap encT_target_Sheet x17), .row A528 c529 35 2 (List.flatMap encT_target_Step y329), .blk b48 141 [.slice A526 y326.length c527, .int .i64 y327, .int .u32 y328], .blk b10 141 [.slice A31 x18.bytes.length c32, .int .i64 x18.next, .int .u32 x18.state]] W574 := hS584
     have q := th546 _ _ _ le583 hS585
     obtain ⟨φ586, le587, hS588⟩ := q
     have hS589 : St ⟨w, [], φ⟩ φ586 [.row A172 c173 3 1 (List.flatMap encI y99), .row A29 c30 31 4 (List.flatMap encT_target_Sheet x17), .row A528 c529 35 2 (List.flatMap encT_target_Step y329), .blk b48 141 [.slice A526 y326.length c527, .int .i64 y327, .int .u32 y328], .blk b10 141 [.slice A31 x18.bytes.length c32, .int .i64 x18.next, .int .u32 x18.state]] W574 := hS588
     refine OKS.rm rfl rfl rfl rfl rfl rfl ?_
     refine OKS.r rfl rfl rfl rfl (fun _ => Runs.ext rfl rfl (v := .int .i64 x567) rfl) ?_
     refine OKS.r rfl rfl rfl rfl (fun _ => Runs.ext rfl rfl (v := .int .i64 x568) rfl) ?_
     refine OKS.ra rfl rfl rfl rfl rfl rfl ?_
     refine OKS.ra rfl rfl rfl rfl rfl rfl ?_
     refine OKS.e ?_
     refine thenQ_n ?_
     refine CK.seq ?_
     refine CK.reg (ks := []) (.fl 0 (.fl 1 (.fl 2 (.fl 3 (.fl 4 (.fl 5 (.fl 6 (.fl 7 (.fl 8 (.fl 9 (.fl 10 (.fl 11 (.fl 12 (.fl 13 (.fl 14 (.fl 15 (.fl 16 (.fl 17 (.nil))))))))))))))))))) rfl ?_
     refine OKS.rm rfl rfl rfl rfl rfl rfl ?_
     refine OKS.r rfl rfl rfl rfl (fun _ => Runs.neq rfl rfl rfl) ?_
     refine OKS.rm rfl rfl rfl rfl rfl rfl ?_
     by_cases c590 : x568 = 0
     ·have hm591 := hm570; rw [if_pos c590] at hm591; replace c590 := Hid.mk c590
      refine OKS.p rfl rfl rfl (wantedN rfl rfl (decF (fun h => h c590.out)) rfl) ?_
      refine OKS.p rfl rfl rfl (wantedN rfl rfl (decF (fun h => h c590.out)) rfl) ?_
      refine OKS.r rfl rfl rfl rfl (fun _ => Runs.pickF rfl (decF (fun h => h c590.out)) rfl) ?_
      refine OKS.rm rfl rfl rfl rfl rfl rfl ?_
      refine OKS.rm rfl rfl rfl (wantedY rfl rfl rfl) rfl rfl ?_
      refine OKS.r rfl rfl rfl (wantedY rfl rfl rfl) (fun _ => Runs.eql rfl rfl rfl) ?_
      refine OKS.rm rfl rfl rfl (wantedY rfl rfl rfl) rfl rfl ?_
      refine OKS.rm rfl rfl rfl (wantedY rfl rfl (decT c590.out)) rfl f540 ?_
      refine OKS.r rfl rfl rfl (wantedY rfl rfl (decT c590.out)) (fun _ => Runs.notT rfl rfl) ?_
      refine OKS.rm rfl rfl rfl (wantedY rfl rfl (decT c590.out)) rfl rfl ?_
      by_cases c592 : x200 = true
      ·have hm593 := hm591; rw [if_pos c592] at hm593; replace c592 := Hid.mk c592
       refine OKS.rm rfl rfl rfl (wantedY rfl rfl (congrArg (fun b => Value.bool (!b)) c592.out)) rfl rfl ?_
       refine OKS.r rfl rfl rfl (wantedY rfl rfl (congrArg (fun b => Value.bool (!b)) c592.out)) (fun _ => Runs.geq rfl rfl rfl) ?_
       refine OKS.r rfl rfl rfl (wantedY rfl rfl (decT c590.out)) (fun _ => Runs.pickF rfl (congrArg (fun b => Value.bool (!b)) c592.out) rfl) ?_
       refine OKS.r rfl rfl rfl (wantedY rfl rfl rfl) (fun _ => Runs.pickT rfl (decT c590.out) rfl) ?_
       refine OKS.r rfl rfl rfl rfl (fun _ => Runs.pickF rfl rfl rfl) ?_
       refine OKS.e ?_
       refine thenQ_n ?_
       by_cases c594 : 0 ≤ x567
       ·have hm595 := hm593; rw [if_pos c594] at hm595; replace c594 := Hid.mk c594
        refine CK.condT (decT c594.out) ?_
        refine CK.seq ?_
        refine CK.reg (ks := []) (.fl 0 (.nil)) rfl ?_
        refine OKS.ra rfl rfl rfl rfl rfl rfl ?_
        refine OKS.e ?_
        refine thenQ_n ?_
        refine CK.ret ?_
        refine blockQ_r ?_
        refine thenQ_r ?_
        have q := esc_spec hm595
        obtain ⟨v596, hm597, e598⟩ := q
        obtain rfl := jn_inr hm220 hX245 (hb253 v596 e598)
        refine thenQ_r ?_
        refine blockQ_r ?_
        refine thenQ_r ?_
        cases hm597
        exact ⟨rfl, _, (res1 rfl), φ586, _, (hS589.pick [] _ (by decide) rfl), rfl, rfl⟩
       ·have hm599 := hm593; rw [if_neg c594] at hm599; replace c594 := Hid.mk c594
        refine CK.condF (decF c594.out) ?_
        refine CK.skip ?_
        refine blockQ_n ?_
        refine thenQ_n ?_
        refine CK.reg (ks := []) (.fl 0 (.fl 1 (.nil))) rfl ?_
        refine OKS.r rfl rfl rfl rfl (fun _ => Runs.to (Runs.addw rfl f542 rfl) (congrArg (Value.int .i64) hi269.out)) ?_
        refine OKS.rm rfl rfl rfl rfl rfl rfl ?_
        refine OKS.e ?_
        obtain rfl := Option.some.inj hm599
        have h605 := h544.le le587
        exact thenQ_n ⟨rfl, _, rfl, ⟨φ586, A526, c527, rfl, f533, f534, f535, f536, f537, f538, f539, f540, (((le257.trans le278).trans le531).trans le587), (hS589.pick [3, 4, 1, 0] _ (by decide) rfl), h605⟩⟩
      ·have hm606 := hm591; rw [if_neg c592] at hm606; replace c592 := Hid.mk c592
       refine OKS.p rfl rfl rfl (wantedN rfl rfl (congrArg (fun b => Value.bool (!b)) (Bool.eq_false_iff.2 c592.out)) rfl) ?_
       refine OKS.p rfl rfl rfl (wantedN rfl rfl (congrArg (fun b => Value.bool (!b)) (Bool.eq_false_iff.2 c592.out)) rfl) ?_
       refine OKS.r rfl rfl rfl (wantedY rfl rfl (decT c590.out)) (fun _ => Runs.pickT rfl (congrArg (fun b => Value.bool (!b)) (Bool.eq_false_iff.2 c592.out)) rfl) ?_
       refine OKS.r rfl rfl rfl (wantedY rfl rfl rfl) (fun _ => Runs.pickT rfl (decT c590.out) rfl) ?_
       refine OKS.r rfl rfl rfl rfl (fun _ => Runs.pickF rfl rfl rfl) ?_
       refine OKS.e ?_
       refine thenQ_n ?_
       refine CK.condT rfl ?_
       refine CK.seq ?_
       refine CK.reg (ks := []) (.fl 0 (.nil)) rfl ?_
       refine OKS.ra rfl rfl rfl rfl rfl rfl ?_
       refine OKS.e ?_
       refine thenQ_n ?_
       refine CK.ret ?_
       refine blockQ_r ?_
       refine thenQ_r ?_
       have q := esc_spec hm606
       obtain ⟨v607, hm608, e609⟩ := q
       obtain rfl := jn_inr hm220 hX245 (hb253 v607 e609)
       refine thenQ_r ?_
       refine blockQ_r ?_
       refine thenQ_r ?_
       cases hm608
       exact ⟨rfl, _, (res1 rfl), φ586, _, (hS589.pick [] _ (by decide) rfl), rfl, rfl⟩
     ·have hm610 := hm570; rw [if_neg c590] at hm610; replace c590 := Hid.mk c590
      refine OKS.rm rfl rfl rfl (wantedY rfl rfl (decT c590.out)) rfl rfl ?_
      refine OKS.r rfl rfl rfl (wantedY rfl rfl (decT c590.out)) (fun _ => Runs.neq rfl rfl rfl) ?_
      refine OKS.r rfl rfl rfl rfl (fun _ => Runs.pickT rfl (decT c590.out) rfl) ?_
      refine OKS.rm rfl rfl rfl rfl rfl rfl ?_
      by_cases c611 : x568 = 8
      ·have hm612 := hm610; rw [if_pos c611] at hm612; replace c611 := Hid.mk c611
       refine OKS.rm rfl rfl rfl (wantedY rfl rfl (decF (fun h => h c611.out))) rfl rfl ?_
       refine OKS.r rfl rfl rfl (wantedY rfl rfl (decF (fun h => h c611.out))) (fun _ => Runs.eql rfl rfl rfl) ?_
       refine OKS.rm rfl rfl rfl (wantedY rfl rfl (decF (fun h => h c611.out))) rfl rfl ?_
       refine OKS.p rfl rfl rfl (wantedN rfl rfl (decF c590.out) rfl) ?_
       refine OKS.p rfl rfl rfl (wantedN rfl rfl (decF c590.out) rfl) ?_
       refine OKS.p rfl rfl rfl (wantedN rfl rfl (decF c590.out) rfl) ?_
       refine OKS.p rfl rfl rfl (wantedU rfl rfl rfl) ?_
       refine OKS.p rfl rfl rfl (wantedU rfl rfl rfl) ?_
       refine OKS.p rfl rfl rfl (wantedN rfl rfl (decF c590.out) rfl) ?_
       refine OKS.r rfl rfl rfl (wantedY rfl rfl (decF (fun h => h c611.out))) (fun _ => Runs.pickF rfl (decF c590.out) rfl) ?_
       refine OKS.r rfl rfl rfl rfl (fun _ => Runs.pickF rfl (decF (fun h => h c611.out)) rfl) ?_
       refine OKS.e ?_
       refine thenQ_n ?_
       refine CK.condF rfl ?_
       refine CK.skip ?_
       refine blockQ_n ?_
       refine thenQ_n ?_
       refine CK.reg (ks := []) (.fl 0 (.fl 1 (.nil))) rfl ?_
       refine OKS.r rfl rfl rfl rfl (fun _ => Runs.to (Runs.addw rfl f542 rfl) (congrArg (Value.int .i64) hi269.out)) ?_
       refine OKS.rm rfl rfl rfl rfl rfl rfl ?_
       refine OKS.e ?_
       obtain rfl := Option.some.inj hm612
       have h618 := h544.le le587
       exact thenQ_n ⟨rfl, _, rfl, ⟨φ586, A526, c527, rfl, f533, f534, f535, f536, f537, f538, f539, f540, (((le257.trans le278).trans le531).trans le587), (hS589.pick [3, 4, 1, 0] _ (by decide) rfl), h618⟩⟩
      ·have hm619 := hm610; rw [if_neg c611] at hm619; replace c611 := Hid.mk c611
       refine OKS.p rfl rfl rfl (wantedN rfl rfl (decT c611.out) rfl) ?_
       refine OKS.p rfl rfl rfl (wantedN rfl rfl (decT c611.out) rfl) ?_
       refine OKS.p rfl rfl rfl (wantedN rfl rfl (decT c611.out) rfl) ?_
       refine OKS.p rfl rfl rfl (wantedU rfl rfl rfl) ?_
       refine OKS.p rfl rfl rfl (wantedU rfl rfl rfl) ?_
       refine OKS.p rfl rfl rfl (wantedU rfl rfl rfl) ?_
       refine OKS.p rfl rfl rfl (wantedU rfl rfl rfl) ?_
       refine OKS.p rfl rfl rfl (wantedU rfl rfl rfl) ?_
       refine OKS.p rfl rfl rfl (wantedU rfl rfl rfl) ?_
       refine OKS.p rfl rfl rfl (wantedN rfl rfl (decT c611.out) rfl) ?_
       refine OKS.r rfl rfl rfl rfl (fun _ => Runs.pickT rfl (decT c611.out) rfl) ?_
       refine OKS.e ?_
       refine thenQ_n ?_
       refine CK.condT rfl ?_
       refine CK.seq ?_
       refine CK.reg (ks := []) (.fl 0 (.nil)) rfl ?_
       refine OKS.ra rfl rfl rfl rfl rfl rfl ?_
       refine OKS.e ?_
       refine thenQ_n ?_
       refine CK.ret ?_
       refine blockQ_r ?_
       refine thenQ_r ?_
       have q := esc_spec hm619
       obtain ⟨v620, hm621, e622⟩ := q
       obtain rfl := jn_inr hm220 hX245 (hb253 v620 e622)
       refine thenQ_r ?_
       refine blockQ_r ?_
       refine thenQ_r ?_
       cases hm621
       exact ⟨rfl, _, (res1 rfl), φ586, _, (hS589.pick [] _ (by decide) rfl), rfl, rfl⟩
   ·rintro ⟨y627, y628, y629⟩ σ623 W624 ⟨φ632, A630, c631, fi626, f635, f636, f637, f638, f639, f640, f641, f642, le633, hS634, h643⟩ hb625
    have hm644 := jn_inl hm220 hX245 hb625
    try dsimp only at hm644
    have c645 : Hid (¬ ((↑((6 : Int) - 0).toNat : Int) < 6)) := Hid.mk (lp_end0)
    refine CK.seq ?_
    refine CK.reg (ks := []) (.fl 0 (.nil)) rfl ?_
    refine OKS.r rfl rfl rfl rfl (fun _ => Runs.lss rfl fi626 rfl) ?_
    refine OKS.e ?_
    refine thenQ_n ?_
    refine CK.seq ?_
    refine CK.condF (decF c645.out) ?_
    refine CK.exit ?_
    refine thenQ_e ?_
    refine thenQ_e ?_
    refine blockQ_h ?_
    refine thenQ_n ?_
    refine CK.seq ?_
    refine CK.reg (ks := []) (.fl 0 (.fl 1 (.fl 2 (.fl 3 (.fl 4 (.nil)))))) rfl ?_
    refine OKS.rm rfl rfl rfl rfl rfl f635 ?_
    refine OKS.r rfl rfl rfl rfl (fun _ => Runs.cvw rfl rfl Try.runUnderlying5 Try.runUnderlying3 rfl rfl) ?_
    refine OKS.rm rfl rfl rfl rfl rfl f639 ?_
    have q := bnd hm644
    obtain ⟨x646, h647, hm648⟩ := q
    refine OKS.r rfl rfl rfl rfl (fun _ => Runs.rem rfl rfl rfl h647) ?_
    refine OKS.ra rfl rfl rfl rfl rfl rfl ?_
    refine OKS.e ?_
    refine thenQ_n ?_
    refine CK.seq ?_
    refine CK.reg (ks := []) (.fl 0 (.fl 1 (.fl 2 (.fl 3 (.fl 4 (.fl 5 (.fl 6 (.fl 7 (.fl 8 (.nil)))))))))) rfl ?_
    refine OKS.rm rfl rfl rfl rfl rfl rfl ?_
    refine OKS.rm rfl rfl rfl rfl rfl f636 ?_
    refine OKS.r rfl rfl rfl rfl (fun _ => Runs.cvw rfl rfl Try.runUnderlying5 Try.runUnderlying3 rfl rfl) ?_
    refine OKS.rm rfl rfl rfl rfl rfl f639 ?_
    refine OKS.rm rfl rfl rfl rfl rfl rfl ?_
    refine OKS.r rfl rfl rfl rfl (fun _ => Runs.subw rfl rfl rfl) ?_
    have q := bnd hm648
    obtain ⟨x649, h650, hm651⟩ := q
    refine OKS.r rfl rfl rfl rfl (fun _ => Runs.rem rfl rfl rfl h650) ?_
    refine OKS.r rfl rfl rfl rfl (fun _ => Runs.addw rfl rfl rfl) ?_
    refine OKS.ra rfl rfl rfl rfl rfl rfl ?_
    refine OKS.e ?_
    refine thenQ_n ?_
    refine CK.seq ?_
    refine CK.reg (ks := []) (.fl 0 (.fl 1 (.nil))) rfl ?_
    refine OKS.ra rfl rfl rfl rfl rfl rfl ?_
    refine OKS.ra rfl rfl rfl rfl rfl rfl ?_
    refine OKS.e ?_
    refine thenQ_n ?_
    refine CK.seq ?_
    refine CK.seq ?_
    refine CK.reg (ks := []) (.fl 0 (.fl 1 (.nil))) rfl ?_
    refine OKS.rm rfl rfl rfl rfl rfl rfl ?_
    refine OKS.ra rfl rfl rfl rfl rfl rfl ?_
    refine OKS.e ?_
    refine thenQ_n ?_
    refine CK.block ?_
    refine CK.iter (fun (x661, x662, x663) σ_ w_ => ∃ (φ_ : PHeap), σ_ 9 = .slice A27 x16.length c28 ∧ σ_ 10 = .slice A29 x17.length c30 ∧ σ_ 13 = .slice A172 y99.length c173 ∧ σ_ 20 = .int .i64 x646 ∧ σ_ 21 = .int .i64 (w64 (x646 + x649)) ∧ σ_ 22 = .int .i64 x661 ∧ σ_ 23 = .int .i64 x662 ∧ σ_ 24 = .int .i64 x663 ∧ PHeap.Le φ632 φ_ ∧ St ⟨w, [], φ⟩ φ_ [.blk b48 141 [.slice A630 y627.length c631, .int .i64 y628, .int .u32 y629], .blk b10 141 [.slice A31 x18.bytes.length c32, .int .i64 x18.next, .int .u32 x18.state], .row A29 c30 31 4 (List.flatMap encT_target_Sheet x17), .row A172 c173 3 1 (List.flatMap encI y99)] w_) hm651 ?_ ?_
    ·exact ⟨φ632, f637, f638, f641, rfl, rfl, rfl, rfl, rfl, (PHeap.Le.refl _), hS634⟩
    ·rintro ⟨x661, x662, x663⟩ xx666 σ664 W665 ⟨φ671, f674, f675, f676, f677, f678, f679, f680, f681, le672, hS673⟩ hx667 hb668
     try dsimp only at hx667
     refine CK.seq ?_
     refine CK.seq ?_
     refine CK.reg (ks := []) (.fl 0 (.fl 1 (.fl 2 (.nil)))) rfl ?_
     refine OKS.rm rfl rfl rfl rfl rfl f681 ?_
     refine OKS.rm rfl rfl rfl rfl rfl f678 ?_
     refine OKS.r rfl rfl rfl rfl (fun _ => Runs.leq rfl rfl rfl) ?_
     refine OKS.e ?_
     refine thenQ_n ?_
     by_cases c682 : x663 ≤ (w64 (x646 + x649))
     ·have hm683 := hx667; rw [if_pos c682] at hm683; replace c682 := Hid.mk c682
      refine CK.condT (decT c682.out) ?_
      refine CK.skip ?_
      refine thenQ_n ?_
      refine CK.seq ?_
      refine CK.block ?_
      refine CK.anyOrd Try.mixed [3, 3, 3, 3, 1, 3, 3, 3, 3, 3, 1, 3, 3, 3] (.fl 0 (.fl 1 (.fl 2 (.fl 3 (.fl 4 (.fl 5 (.fl 6 (.fl 7 (.fl 8 (.fl 9 (.fl 10 (.fl 11 (.fl 12 (.fl 13 (.nil))))))))))))))) (by kernel_rfl) ?_
      have hS684 := hS673.drew
      generalize hw_W685 : ({ W665 with drawn := W665.drawn + 1 } : World) = W685 at hS684 ⊢
      refine OKS.rm rfl rfl rfl rfl rfl f679 ?_
      refine OKS.rm rfl rfl rfl rfl rfl f674 ?_
      refine OKS.rm rfl rfl rfl rfl rfl f681 ?_
      have q := bnd hm683
      obtain ⟨x686, h687, hm688⟩ := q
      have h689 := h34.le le46
      have h690 := h689.le le175
      have h691 := h690.le le216
      have h692 := h691.le le633
      have h693 := h692.le le672
      have q := h693.el (fun _ => rfl) (idx_get h687)
      obtain ⟨b694, off695, hA696, hC697⟩ := q
      refine OKS.r rfl rfl rfl rfl (fun _ => Runs.iaI rfl rfl hA696 rfl Try.runUnderlying22 Try.sizeOf3 (idx_lo h687) (idx_hi h687)) ?_
      refine OKS.m rfl rfl rfl rfl (hS684.ldC (f := 0) hC697 (v := .int .i64 x686) rfl rfl Try.isAgg3 rfl) rfl ?_
      refine OKS.r rfl rfl rfl rfl (fun _ => Runs.addw rfl rfl rfl) ?_
      refine OKS.rm rfl rfl rfl rfl rfl f680 ?_
      refine OKS.rm rfl rfl rfl rfl rfl f676 ?_
      refine OKS.rm rfl rfl rfl rfl rfl f681 ?_
      have q := bnd hm688
      obtain ⟨_, h698, hm699⟩ := q
      obtain ⟨b700, hA701⟩ := hS684.rowSome (j := 3) rfl (by rw [flatMap_len (f := encI) (sz := 1) (fun _ => rfl) y99]; have hz := chk_lt h698; omega)
      refine OKS.r rfl rfl rfl rfl (fun _ => Runs.iaI rfl rfl hA701 rfl Try.runUnderlying22 Try.sizeOf3 (chk_lo h698) (chk_hi h698)) ?_
      have hg702 := gd_at (xs := y99) (chk_lt h698)
      refine OKS.m rfl rfl rfl rfl (hS684.ldR (j := 3) rfl hA701 rfl rfl Try.isAgg3 (flatMap_cell (sz := 1) (fun _ => rfl) _ _ 0 _ hg702 (by first | omega | rfl) rfl)) rfl ?_
      refine OKS.r rfl rfl rfl rfl (fun _ => Runs.addw rfl rfl rfl) ?_
      refine OKS.ra rfl rfl rfl rfl rfl rfl ?_
      refine OKS.ra rfl rfl rfl rfl rfl rfl ?_
      refine OKS.e ?_
      refine blockQ_n ?_
      refine thenQ_n ?_
      refine CK.reg (ks := []) (.fl 0 (.fl 1 (.fl 2 (.nil)))) rfl ?_
      refine OKS.rm rfl rfl rfl rfl rfl f681 ?_
      refine OKS.r rfl rfl rfl rfl (fun _ => Runs.addw rfl rfl rfl) ?_
      refine OKS.ra rfl rfl rfl rfl rfl rfl ?_
      refine OKS.e ?_
      obtain rfl := Option.some.inj hm699
      exact thenQ_n ⟨rfl, _, rfl, ⟨φ671, f674, f675, f676, f677, f678, rfl, rfl, rfl, le672, hS684⟩⟩
     ·have hm706 := hx667; rw [if_neg c682] at hm706; replace c682 := Hid.mk c682
      refine CK.condF (decF c682.out) ?_
      refine CK.exit ?_
      refine thenQ_e ?_
      have q := esc_spec hm706
      obtain ⟨v707, hm708, e709⟩ := q
      obtain rfl := hb668 v707 e709
      refine thenQ_e ?_
      refine blockQ_h ?_
      refine thenQ_n ?_
      refine CK.seq ?_
      refine CK.reg (ks := []) (.fl 0 (.fl 1 (.fl 2 (.fl 3 (.fl 4 (.fx 5 (.fl 6 (.fx 7 (.fx 8 (.fl 9 (.nil)) .stop) .stop)) .stop)))))) rfl ?_
      refine OKS.rm rfl rfl rfl rfl rfl f675 ?_
      refine OKS.rm rfl rfl rfl rfl rfl f677 ?_
      refine OKS.rm rfl rfl rfl rfl rfl f678 ?_
      refine OKS.rm rfl rfl rfl rfl rfl f679 ?_
      refine OKS.rm rfl rfl rfl rfl rfl f679 ?_
      have q := bnd hm708
      obtain ⟨x710, h711, hm712⟩ := q
      refine OKS.callH 0 rfl rfl rfl rfl (Enters.mk rfl rfl Try.call23 (mapcons rfl (mapcons rfl mapnil)) rfl) hS673 (fun hs => w_klisterlaw03_span x661 x661 W665 φ671 hs h711) (.inr rfl) ?_
      rintro φ713 L714 v715 W716 le717 hS718 ⟨rfl, rfl⟩
      have hS719 : St ⟨w, [], φ⟩ φ713 [.blk b48 141 [.slice A630 y627.length c631, .int .i64 y628, .int .u32 y629], .blk b10 141 [.slice A31 x18.bytes.length c32, .int .i64 x18.next, .int .u32 x18.state], .row A29 c30 31 4 (List.flatMap encT_target_Sheet x17), .row A172 c173 3 1 (List.flatMap encI y99)] W716 := hS718
      refine OKS.r rfl rfl rfl rfl (fun _ => Runs.build (pv := [(0, .int .i64 x646), (1, .int .i64 (w64 (x646 + x649))), (2, .agg #[.int .i64 x710.Lo, .int .i64 x710.Hi])]) (z := [.int .i64 0, .int .i64 0, .int .i64 0, .int .i64 0]) (cs := [.int .i64 x646, .int .i64 (w64 (x646 + x649)), .int .i64 x710.Lo, .int .i64 x710.Hi]) rfl (mapcons2 rfl (mapcons2 rfl (mapcons2 rfl mapnil2))) Try.zeroValue31 places31 rfl rfl) ?_
      refine OKS.buildSlice (pv := [(0, .agg #[.int .i64 x646, .int .i64 (w64 (x646 + x649)), .int .i64 x710.Lo, .int .i64 x710.Hi])]) (zs := [.int .i64 0, .int .i64 0, .int .i64 0, .int .i64 0]) (cs := [.int .i64 x646, .int .i64 (w64 (x646 + x649)), .int .i64 x710.Lo, .int .i64 x710.Hi]) rfl rfl rfl rfl rfl (mapcons2 rfl mapnil2) Try.runUnderlying23 Try.sizeOf31 Try.zeroValue31 rfl rfl rfl rfl rfl hS719 ?_
      intro W720 b721 hS722
      have hS724 : St ⟨w, [], φ⟩ φ713 [.row (some ⟨b721, 0, none⟩) 1 31 4 (List.flatMap encT_target_Sheet [(⟨x646, w64 (x646 + x649), x710⟩ : T_target_Sheet)]), .blk b48 141 [.slice A630 y627.length c631, .int .i64 y628, .int .u32 y629], .blk b10 141 [.slice A31 x18.bytes.length c32, .int .i64 x18.next, .int .u32 x18.state], .row A29 c30 31 4 (List.flatMap encT_target_Sheet x17), .row A172 c173 3 1 (List.flatMap encI y99)] W720 := hS722
      have q := bnd hm712
      obtain ⟨x725, h726, hm727⟩ := q
      refine OKS.append (j := 3) (enc := encT_target_Sheet) (xs := x17) (ys := [(⟨x646, w64 (x646 + x649), x710⟩ : T_target_Sheet)]) (zs := x725) rfl rfl rfl rfl rfl Try.underlying23 info31 rfl rfl rfl rfl rfl rfl hS724 rfl rfl rfl (hS724.srcR (j := 0) rfl (by decide) (flatMap_len (f := encT_target_Sheet) (sz := 4) (fun _ => rfl) [(⟨x646, w64 (x646 + x649), x710⟩ : T_target_Sheet)])) (fun _ => rfl) (fun _ => rfl) h726 rfl ?_
      intro A728 c729 W730 hS731
      have hS732 : St ⟨w, [], φ⟩ φ713 [.row (some ⟨b721, 0, none⟩) 1 31 4 (List.flatMap encT_target_Sheet [(⟨x646, w64 (x646 + x649), x710⟩ : T_target_Sheet)]), .blk b48 141 [.slice A630 y627.length c631, .int .i64 y628, .int .u32 y629], .blk b10 141 [.slice A31 x18.bytes.length c32, .int .i64 x18.next, .int .u32 x18.state], .row A728 c729 31 4 (List.flatMap encT_target_Sheet x725), .row A172 c173 3 1 (List.flatMap encI y99)] W730 := hS731
      refine OKS.ra rfl rfl rfl rfl rfl rfl ?_
      refine OKS.e ?_
      refine thenQ_n ?_
      refine CK.seq ?_
      refine CK.reg (ks := []) (.fl 0 (.fl 1 (.fx 2 (.fl 3 (.fl 4 (.fl 5 (.fl 6 (.fl 7 (.nil)))))) .stop))) rfl ?_
      refine OKS.rm rfl rfl rfl rfl rfl f676 ?_
      refine OKS.rm rfl rfl rfl rfl rfl rfl ?_
      have q := hS732.freezeT (k := 4) (n := y99.length) rfl (flatMap_len (f := encI) (sz := 1) (fun _ => rfl) y99) (by decide)
      obtain ⟨φ734, le735, hs736, hS737, th733⟩ := q
      have hS738 : St ⟨w, [], φ⟩ φ734 [.row (some ⟨b721, 0, none⟩) 1 31 4 (List.flatMap encT_target_Sheet [(⟨x646, w64 (x646 + x649), x710⟩ : T_target_Sheet)]), .blk b48 141 [.slice A630 y627.length c631, .int .i64 y628, .int .u32 y629], .blk b10 141 [.slice A31 x18.bytes.length c32, .int .i64 x18.next, .int .u32 x18.state], .row A728 c729 31 4 (List.flatMap encT_target_Sheet x725)] W730 := hS737
      have q := hS738.freezeT (k := 3) (n := x725.length) rfl (flatMap_len (f := encT_target_Sheet) (sz := 4) (fun _ => rfl) x725) (by decide)
      obtain ⟨φ740, le741, hs742, hS743, th739⟩ := q
      have hS744 : St ⟨w, [], φ⟩ φ740 [.row (some ⟨b721, 0, none⟩) 1 31 4 (List.flatMap encT_target_Sheet [(⟨x646, w64 (x646 + x649), x710⟩ : T_target_Sheet)]), .blk b48 141 [.slice A630 y627.length c631, .int .i64 y628, .int .u32 y629], .blk b10 141 [.slice A31 x18.bytes.length c32, .int .i64 x18.next, .int .u32 x18.state]] W730 := hS743
      have h745 := hs736.le le741
      have q := bnd hm727
      obtain ⟨⟨x746, x747⟩, h748, hm749⟩ := q
      try dsimp only at hm749
      refine OKS.callH 0 rfl rfl rfl rfl (Enters.mk rfl rfl Try.call15 (mapcons rfl (mapcons rfl mapnil)) rfl) hS744 (fun hs => w_target_Few y99 A172 c173 x725 A728 c729 W730 φ740 hs h745 hs742 h748) (.inr rfl) ?_
      rintro φ750 L751 v752 W753 le754 hS755 ⟨rfl, rfl⟩
      have hS756 : St ⟨w, [], φ⟩ φ750 [.row (some ⟨b721, 0, none⟩) 1 31 4 (List.flatMap encT_target_Sheet [(⟨x646, w64 (x646 + x649), x710⟩ : T_target_Sheet)]), .blk b48 141 [.slice A630 y627.length c631, .int .i64 y628, .int .u32 y629], .blk b10 141 [.slice A31 x18.bytes.length c32, .int .i64 x18.next, .int .u32 x18.state]] W753 := hS755
      have q := th739 _ _ _ le754 hS756
      obtain ⟨φ757, le758, hS759⟩ := q
      have hS760 : St ⟨w, [], φ⟩ φ757 [.row A728 c729 31 4 (List.flatMap encT_target_Sheet x725), .row (some ⟨b721, 0, none⟩) 1 31 4 (List.flatMap encT_target_Sheet [(⟨x646, w64 (x646 + x649), x710⟩ : T_target_Sheet)]), .blk b48 141 [.slice A630 y627.length c631, .int .i64 y628, .int .u32 y629], .blk b10 141 [.slice A31 x18.bytes.length c32, .int .i64 x18.next, .int .u32 x18.state]] W753 := hS759
      have q := th733 _ _ _ le758 hS760
      obtain ⟨φ761, le762, hS763⟩ := q
      have hS764 : St ⟨w, [], φ⟩ φ761 [.row A172 c173 3 1 (List.flatMap encI y99), .row A728 c729 31 4 (List.flatMap encT_target_Sheet x725), .row (some ⟨b721, 0, none⟩) 1 31 4 (List.flatMap encT_target_Sheet [(⟨x646, w64 (x646 + x649), x710⟩ : T_target_Sheet)]), .blk b48 141 [.slice A630 y627.length c631, .int .i64 y628, .int .u32 y629], .blk b10 141 [.slice A31 x18.bytes.length c32, .int .i64 x18.next, .int .u32 x18.state]] W753 := hS763
      refine OKS.rm rfl rfl rfl rfl rfl rfl ?_
      refine OKS.r rfl rfl rfl rfl (fun _ => Runs.ext rfl rfl (v := .bool x746) rfl) ?_
      refine OKS.r rfl rfl rfl rfl (fun _ => Runs.ext rfl rfl (v := .int .i64 x747) rfl) ?_
      refine OKS.ra rfl rfl rfl rfl rfl rfl ?_
      refine OKS.ra rfl rfl rfl rfl rfl rfl ?_
      refine OKS.e ?_
      refine thenQ_n ?_
      refine CK.seq ?_
      refine CK.reg (ks := []) (.fl 0 (.fl 1 (.fx 2 (.fl 3 (.fl 4 (.fl 5 (.fl 6 (.fl 7 (.nil)))))) .stop))) rfl ?_
      refine OKS.rm rfl rfl rfl rfl rfl f676 ?_
      refine OKS.rm rfl rfl rfl rfl rfl rfl ?_
      have q := hS764.freezeR (k := 0) (n := y99.length) rfl (flatMap_len (f := encI) (sz := 1) (fun _ => rfl) y99) (by decide)
      obtain ⟨φ765, le766, hs767, hS768⟩ := q
      have hS769 : St ⟨w, [], φ⟩ φ765 [.row A728 c729 31 4 (List.flatMap encT_target_Sheet x725), .row (some ⟨b721, 0, none⟩) 1 31 4 (List.flatMap encT_target_Sheet [(⟨x646, w64 (x646 + x649), x710⟩ : T_target_Sheet)]), .blk b48 141 [.slice A630 y627.length c631, .int .i64 y628, .int .u32 y629], .blk b10 141 [.slice A31 x18.bytes.length c32, .int .i64 x18.next, .int .u32 x18.state]] W753 := hS768
      have q := hS769.freezeR (k := 0) (n := x725.length) rfl (flatMap_len (f := encT_target_Sheet) (sz := 4) (fun _ => rfl) x725) (by decide)
      obtain ⟨φ770, le771, hs772, hS773⟩ := q
      have hS774 : St ⟨w, [], φ⟩ φ770 [.row (some ⟨b721, 0, none⟩) 1 31 4 (List.flatMap encT_target_Sheet [(⟨x646, w64 (x646 + x649), x710⟩ : T_target_Sheet)]), .blk b48 141 [.slice A630 y627.length c631, .int .i64 y628, .int .u32 y629], .blk b10 141 [.slice A31 x18.bytes.length c32, .int .i64 x18.next, .int .u32 x18.state]] W753 := hS773
      have h775 := hs767.le le771
      have q := bnd hm749
      obtain ⟨⟨x776, x777⟩, h778, hm779⟩ := q
      try dsimp only at hm779
      refine OKS.callH 0 rfl rfl rfl rfl (Enters.mk rfl rfl Try.call20 (mapcons rfl (mapcons rfl mapnil)) rfl) hS774 (fun hs => w_target_Round y99 A172 c173 x725 A728 c729 W753 φ770 hs h775 hs772 h778) (.inr rfl) ?_
      rintro φ780 L781 v782 W783 le784 hS785 ⟨A786, c787, rfl, rfl⟩
      have hS789 : St ⟨w, [], φ⟩ φ780 [.row A786 c787 35 2 (List.flatMap encT_target_Step x776), .row (some ⟨b721, 0, none⟩) 1 31 4 (List.flatMap encT_target_Sheet [(⟨x646, w64 (x646 + x649), x710⟩ : T_target_Sheet)]), .blk b48 141 [.slice A630 y627.length c631, .int .i64 y628, .int .u32 y629], .blk b10 141 [.slice A31 x18.bytes.length c32, .int .i64 x18.next, .int .u32 x18.state]] W783 := hS785
      refine OKS.rm rfl rfl rfl rfl rfl rfl ?_
      refine OKS.r rfl rfl rfl rfl (fun _ => Runs.ext rfl rfl (v := .slice A786 x776.length c787) rfl) ?_
      refine OKS.r rfl rfl rfl rfl (fun _ => Runs.ext rfl rfl (v := .int .i64 x777) rfl) ?_
      refine OKS.ra rfl rfl rfl rfl rfl rfl ?_
      refine OKS.ra rfl rfl rfl rfl rfl rfl ?_
      refine OKS.e ?_
      refine thenQ_n ?_
      refine CK.seq ?_
      have q := bnd hm779
      obtain ⟨b790, hx792, hm793⟩ := q
      refine CK.cut (fun σ_ w_ => ∃ (φ_ : PHeap), σ_ 9 = .slice A27 x16.length c28 ∧ σ_ 10 = .slice A728 x725.length c729 ∧ σ_ 13 = .slice A172 y99.length c173 ∧ σ_ 14 = .bool x746 ∧ σ_ 25 = .slice A786 x776.length c787 ∧ σ_ 197 = .bool b790 ∧ PHeap.Le φ780 φ_ ∧ St ⟨w, [], φ⟩ φ_ [.blk b48 141 [.slice A630 y627.length c631, .int .i64 y628, .int .u32 y629], .blk b10 141 [.slice A31 x18.bytes.length c32, .int .i64 x18.next, .int .u32 x18.state], .row A786 c787 35 2 (List.flatMap encT_target_Step x776)] w_) ?_ ?_
      ·refine CK.fresh fun σ794 hσ795 => ?_
       have f796 : σ794 9 = .slice A27 x16.length c28 := (hσ795 9).trans f674
       have f797 : σ794 10 = .slice A728 x725.length c729 := (hσ795 10).trans rfl
       have f798 : σ794 13 = .slice A172 y99.length c173 := (hσ795 13).trans f676
       have f799 : σ794 14 = .bool x746 := (hσ795 14).trans rfl
       have f800 : σ794 15 = .int .i64 x747 := (hσ795 15).trans rfl
       have f801 : σ794 22 = .int .i64 x661 := (hσ795 22).trans f679
       have f802 : σ794 23 = .int .i64 x662 := (hσ795 23).trans f680
       have f803 : σ794 25 = .slice A786 x776.length c787 := (hσ795 25).trans rfl
       have f804 : σ794 26 = .int .i64 x777 := (hσ795 26).trans rfl
       clear hσ795
       refine CK.reg (ks := []) (.fl 0 (.fl 1 (.fl 2 (.fl 3 (.fl 4 (.fl 5 (.fl 6 (.fl 7 (.fl 8 (.fl 9 (.fl 10 (.fl 11 (.fl 12 (.fl 13 (.fl 14 (.fl 15 (.fl 16 (.fl 17 (.fl 18 (.fl 19 (.fl 20 (.fl 21 (.fl 22 (.fl 23 (.fl 24 (.nil)))))))))))))))))))))))))) rfl ?_
       refine OKS.rm rfl rfl rfl rfl rfl f800 ?_
       refine OKS.r rfl rfl rfl rfl (fun _ => Runs.neq rfl rfl rfl) ?_
       refine OKS.rm rfl rfl rfl rfl rfl rfl ?_
       by_cases c805 : x747 = 0
       ·have hm806 := hx792; rw [if_pos c805] at hm806; replace c805 := Hid.mk c805
        refine OKS.rm rfl rfl rfl (wantedY rfl rfl (decF (fun h => h c805.out))) rfl f801 ?_
        refine OKS.rm rfl rfl rfl (wantedY rfl rfl (decF (fun h => h c805.out))) rfl f802 ?_
        refine OKS.r rfl rfl rfl (wantedY rfl rfl (decF (fun h => h c805.out))) (fun _ => Runs.lss rfl rfl rfl) ?_
        refine OKS.rm rfl rfl rfl (wantedY rfl rfl (decF (fun h => h c805.out))) rfl rfl ?_
        by_cases c807 : x661 < x662
        ·have hm808 := hm806; rw [if_pos c807] at hm808; replace c807 := Hid.mk c807
         refine OKS.rm rfl rfl rfl (wantedY rfl rfl (decT c807.out)) rfl f799 ?_
         refine OKS.r rfl rfl rfl (wantedY rfl rfl (decT c807.out)) (fun _ => Runs.notT rfl rfl) ?_
         refine OKS.r rfl rfl rfl (wantedY rfl rfl (decF (fun h => h c805.out))) (fun _ => Runs.pickT rfl (decT c807.out) rfl) ?_
         refine OKS.r rfl rfl rfl rfl (fun _ => Runs.pickF rfl (decF (fun h => h c805.out)) rfl) ?_
         refine OKS.rm rfl rfl rfl rfl rfl rfl ?_
         by_cases c809 : x746 = true
         ·have hm810 := hm808; rw [if_pos c809] at hm810; replace c809 := Hid.mk c809
          refine OKS.rm rfl rfl rfl (wantedY rfl rfl (congrArg (fun b => Value.bool (!b)) c809.out)) rfl f799 ?_
          refine OKS.rm rfl rfl rfl (wantedY rfl rfl (congrArg (fun b => Value.bool (!b)) c809.out)) rfl f804 ?_
          refine OKS.r rfl rfl rfl (wantedY rfl rfl (congrArg (fun b => Value.bool (!b)) c809.out)) (fun _ => Runs.eql rfl rfl rfl) ?_
          refine OKS.r rfl rfl rfl (wantedY rfl rfl (congrArg (fun b => Value.bool (!b)) c809.out)) (fun _ => Runs.neB rfl rfl rfl Try.runUnderlying4) ?_
          refine OKS.r rfl rfl rfl rfl (fun _ => Runs.pickF rfl (congrArg (fun b => Value.bool (!b)) c809.out) rfl) ?_
          refine OKS.rm rfl rfl rfl rfl rfl rfl ?_
          by_cases c811 : (x746 == (decide (x777 = 0))) = true
          ·have hm812 := hm810; rw [if_pos c811] at hm812; replace c811 := Hid.mk c811
           refine OKS.rm rfl rfl rfl (wantedY rfl rfl (congrArg (fun b => Value.bool (!b)) c811.out)) rfl f799 ?_
           refine OKS.r rfl rfl rfl (wantedY rfl rfl (congrArg (fun b => Value.bool (!b)) c811.out)) (fun _ => Runs.notT rfl rfl) ?_
           refine OKS.rm rfl rfl rfl (wantedY rfl rfl (congrArg (fun b => Value.bool (!b)) c811.out)) rfl rfl ?_
           refine OKS.p rfl rfl rfl (wantedN rfl rfl (congrArg (fun b => Value.bool (!b)) c809.out) rfl) ?_
           refine OKS.p rfl rfl rfl (wantedN rfl rfl (congrArg (fun b => Value.bool (!b)) c809.out) rfl) ?_
           refine OKS.r rfl rfl rfl (wantedY rfl rfl (congrArg (fun b => Value.bool (!b)) c811.out)) (fun _ => Runs.pickF rfl (congrArg (fun b => Value.bool (!b)) c809.out) rfl) ?_
           refine OKS.r rfl rfl rfl rfl (fun _ => Runs.pickF rfl (congrArg (fun b => Value.bool (!b)) c811.out) rfl) ?_
           refine OKS.e ?_
           cases hm812
           exact thenQ_n ⟨rfl, ⟨φ780, f796, f797, f798, f799, f803, rfl, (PHeap.Le.refl _), (hS789.pick [2, 3, 0] _ (by decide) rfl)⟩⟩
          ·have hm814 := hm810; rw [if_neg c811] at hm814; replace c811 := Hid.mk c811
           refine OKS.p rfl rfl rfl (wantedN rfl rfl (congrArg (fun b => Value.bool (!b)) (Bool.eq_false_iff.2 c811.out)) rfl) ?_
           refine OKS.p rfl rfl rfl (wantedN rfl rfl (congrArg (fun b => Value.bool (!b)) (Bool.eq_false_iff.2 c811.out)) rfl) ?_
           refine OKS.p rfl rfl rfl (wantedN rfl rfl (congrArg (fun b => Value.bool (!b)) (Bool.eq_false_iff.2 c811.out)) rfl) ?_
           refine OKS.p rfl rfl rfl (wantedU rfl rfl rfl) ?_
           refine OKS.p rfl rfl rfl (wantedU rfl rfl rfl) ?_
           refine OKS.p rfl rfl rfl (wantedN rfl rfl (congrArg (fun b => Value.bool (!b)) (Bool.eq_false_iff.2 c811.out)) rfl) ?_
           refine OKS.r rfl rfl rfl rfl (fun _ => Runs.pickT rfl (congrArg (fun b => Value.bool (!b)) (Bool.eq_false_iff.2 c811.out)) rfl) ?_
           refine OKS.e ?_
           cases hm814
           exact thenQ_n ⟨rfl, ⟨φ780, f796, f797, f798, f799, f803, rfl, (PHeap.Le.refl _), (hS789.pick [2, 3, 0] _ (by decide) rfl)⟩⟩
         ·have hm816 := hm808; rw [if_neg c809] at hm816; replace c809 := Hid.mk c809
          refine OKS.p rfl rfl rfl (wantedN rfl rfl (congrArg (fun b => Value.bool (!b)) (Bool.eq_false_iff.2 c809.out)) rfl) ?_
          refine OKS.p rfl rfl rfl (wantedN rfl rfl (congrArg (fun b => Value.bool (!b)) (Bool.eq_false_iff.2 c809.out)) rfl) ?_
          refine OKS.p rfl rfl rfl (wantedN rfl rfl (congrArg (fun b => Value.bool (!b)) (Bool.eq_false_iff.2 c809.out)) rfl) ?_
          refine OKS.p rfl rfl rfl (wantedN rfl rfl (congrArg (fun b => Value.bool (!b)) (Bool.eq_false_iff.2 c809.out)) rfl) ?_
          refine OKS.r rfl rfl rfl rfl (fun _ => Runs.pickT rfl (congrArg (fun b => Value.bool (!b)) (Bool.eq_false_iff.2 c809.out)) rfl) ?_
          refine OKS.rm rfl rfl rfl rfl rfl rfl ?_
          refine OKS.p rfl rfl rfl (wantedN rfl rfl rfl rfl) ?_
          refine OKS.p rfl rfl rfl (wantedN rfl rfl rfl rfl) ?_
          refine OKS.p rfl rfl rfl (wantedN rfl rfl rfl rfl) ?_
          refine OKS.p rfl rfl rfl (wantedU rfl rfl rfl) ?_
          refine OKS.p rfl rfl rfl (wantedU rfl rfl rfl) ?_
          refine OKS.p rfl rfl rfl (wantedN rfl rfl rfl rfl) ?_
          refine OKS.r rfl rfl rfl rfl (fun _ => Runs.pickT rfl rfl rfl) ?_
          refine OKS.e ?_
          cases hm816
          exact thenQ_n ⟨rfl, ⟨φ780, f796, f797, f798, f799, f803, rfl, (PHeap.Le.refl _), (hS789.pick [2, 3, 0] _ (by decide) rfl)⟩⟩
        ·have hm818 := hm806; rw [if_neg c807] at hm818; replace c807 := Hid.mk c807
         refine OKS.p rfl rfl rfl (wantedN rfl rfl (decF c807.out) rfl) ?_
         refine OKS.p rfl rfl rfl (wantedN rfl rfl (decF c807.out) rfl) ?_
         refine OKS.r rfl rfl rfl (wantedY rfl rfl (decF (fun h => h c805.out))) (fun _ => Runs.pickF rfl (decF c807.out) rfl) ?_
         refine OKS.r rfl rfl rfl rfl (fun _ => Runs.pickF rfl (decF (fun h => h c805.out)) rfl) ?_
         refine OKS.rm rfl rfl rfl rfl rfl rfl ?_
         refine OKS.rm rfl rfl rfl (wantedY rfl rfl rfl) rfl f799 ?_
         refine OKS.rm rfl rfl rfl (wantedY rfl rfl rfl) rfl f804 ?_
         refine OKS.r rfl rfl rfl (wantedY rfl rfl rfl) (fun _ => Runs.eql rfl rfl rfl) ?_
         refine OKS.r rfl rfl rfl (wantedY rfl rfl rfl) (fun _ => Runs.neB rfl rfl rfl Try.runUnderlying4) ?_
         refine OKS.r rfl rfl rfl rfl (fun _ => Runs.pickF rfl rfl rfl) ?_
         refine OKS.rm rfl rfl rfl rfl rfl rfl ?_
         by_cases c819 : (x746 == (decide (x777 = 0))) = true
         ·have hm820 := hm818; rw [if_pos c819] at hm820; replace c819 := Hid.mk c819
          refine OKS.rm rfl rfl rfl (wantedY rfl rfl (congrArg (fun b => Value.bool (!b)) c819.out)) rfl f799 ?_
          refine OKS.r rfl rfl rfl (wantedY rfl rfl (congrArg (fun b => Value.bool (!b)) c819.out)) (fun _ => Runs.notT rfl rfl) ?_
          refine OKS.rm rfl rfl rfl (wantedY rfl rfl (congrArg (fun b => Value.bool (!b)) c819.out)) rfl rfl ?_
          by_cases c821 : x746 = true
          ·have hm822 := hm820; rw [if_pos c821] at hm822; replace c821 := Hid.mk c821
           refine OKS.p rfl rfl rfl (wantedN rfl rfl (congrArg (fun b => Value.bool (!b)) c821.out) rfl) ?_
           refine OKS.p rfl rfl rfl (wantedN rfl rfl (congrArg (fun b => Value.bool (!b)) c821.out) rfl) ?_
           refine OKS.r rfl rfl rfl (wantedY rfl rfl (congrArg (fun b => Value.bool (!b)) c819.out)) (fun _ => Runs.pickF rfl (congrArg (fun b => Value.bool (!b)) c821.out) rfl) ?_
           refine OKS.r rfl rfl rfl rfl (fun _ => Runs.pickF rfl (congrArg (fun b => Value.bool (!b)) c819.out) rfl) ?_
           refine OKS.e ?_
           cases hm822
           exact thenQ_n ⟨rfl, ⟨φ780, f796, f797, f798, f799, f803, rfl, (PHeap.Le.refl _), (hS789.pick [2, 3, 0] _ (by decide) rfl)⟩⟩
          ·have hm824 := hm820; rw [if_neg c821] at hm824; replace c821 := Hid.mk c821
           refine OKS.rm rfl rfl rfl (wantedY rfl rfl (congrArg (fun b => Value.bool (!b)) (Bool.eq_false_iff.2 c821.out))) rfl f804 ?_
           refine OKS.r rfl rfl rfl (wantedY rfl rfl (congrArg (fun b => Value.bool (!b)) (Bool.eq_false_iff.2 c821.out))) (fun _ => Runs.neq rfl rfl rfl) ?_
           refine OKS.r rfl rfl rfl (wantedY rfl rfl (congrArg (fun b => Value.bool (!b)) c819.out)) (fun _ => Runs.pickT rfl (congrArg (fun b => Value.bool (!b)) (Bool.eq_false_iff.2 c821.out)) rfl) ?_
           refine OKS.r rfl rfl rfl rfl (fun _ => Runs.pickF rfl (congrArg (fun b => Value.bool (!b)) c819.out) rfl) ?_
           refine OKS.e ?_
           cases hm824
           exact thenQ_n ⟨rfl, ⟨φ780, f796, f797, f798, f799, f803, rfl, (PHeap.Le.refl _), (hS789.pick [2, 3, 0] _ (by decide) rfl)⟩⟩
         ·have hm826 := hm818; rw [if_neg c819] at hm826; replace c819 := Hid.mk c819
          refine OKS.p rfl rfl rfl (wantedN rfl rfl (congrArg (fun b => Value.bool (!b)) (Bool.eq_false_iff.2 c819.out)) rfl) ?_
          refine OKS.p rfl rfl rfl (wantedN rfl rfl (congrArg (fun b => Value.bool (!b)) (Bool.eq_false_iff.2 c819.out)) rfl) ?_
          refine OKS.p rfl rfl rfl (wantedN rfl rfl (congrArg (fun b => Value.bool (!b)) (Bool.eq_false_iff.2 c819.out)) rfl) ?_
          refine OKS.p rfl rfl rfl (wantedU rfl rfl rfl) ?_
          refine OKS.p rfl rfl rfl (wantedU rfl rfl rfl) ?_
          refine OKS.p rfl rfl rfl (wantedN rfl rfl (congrArg (fun b => Value.bool (!b)) (Bool.eq_false_iff.2 c819.out)) rfl) ?_
          refine OKS.r rfl rfl rfl rfl (fun _ => Runs.pickT rfl (congrArg (fun b => Value.bool (!b)) (Bool.eq_false_iff.2 c819.out)) rfl) ?_
          refine OKS.e ?_
          cases hm826
          exact thenQ_n ⟨rfl, ⟨φ780, f796, f797, f798, f799, f803, rfl, (PHeap.Le.refl _), (hS789.pick [2, 3, 0] _ (by decide) rfl)⟩⟩
       ·have hm828 := hx792; rw [if_neg c805] at hm828; replace c805 := Hid.mk c805
        refine OKS.p rfl rfl rfl (wantedN rfl rfl (decT c805.out) rfl) ?_
        refine OKS.p rfl rfl rfl (wantedN rfl rfl (decT c805.out) rfl) ?_
        refine OKS.p rfl rfl rfl (wantedN rfl rfl (decT c805.out) rfl) ?_
        refine OKS.p rfl rfl rfl (wantedN rfl rfl (decT c805.out) rfl) ?_
        refine OKS.p rfl rfl rfl (wantedU rfl rfl rfl) ?_
        refine OKS.p rfl rfl rfl (wantedU rfl rfl rfl) ?_
        refine OKS.p rfl rfl rfl (wantedN rfl rfl (decT c805.out) rfl) ?_
        refine OKS.r rfl rfl rfl rfl (fun _ => Runs.pickT rfl (decT c805.out) rfl) ?_
        refine OKS.rm rfl rfl rfl rfl rfl rfl ?_
        refine OKS.p rfl rfl rfl (wantedN rfl rfl rfl rfl) ?_
        refine OKS.p rfl rfl rfl (wantedN rfl rfl rfl rfl) ?_
        refine OKS.p rfl rfl rfl (wantedN rfl rfl rfl rfl) ?_
        refine OKS.p rfl rfl rfl (wantedN rfl rfl rfl rfl) ?_
        refine OKS.r rfl rfl rfl rfl (fun _ => Runs.pickT rfl rfl rfl) ?_
        refine OKS.rm rfl rfl rfl rfl rfl rfl ?_
        refine OKS.p rfl rfl rfl (wantedN rfl rfl rfl rfl) ?_
        refine OKS.p rfl rfl rfl (wantedN rfl rfl rfl rfl) ?_
        refine OKS.p rfl rfl rfl (wantedN rfl rfl rfl rfl) ?_
        refine OKS.p rfl rfl rfl (wantedU rfl rfl rfl) ?_
        refine OKS.p rfl rfl rfl (wantedU rfl rfl rfl) ?_
        refine OKS.p rfl rfl rfl (wantedN rfl rfl rfl rfl) ?_
        refine OKS.r rfl rfl rfl rfl (fun _ => Runs.pickT rfl rfl rfl) ?_
        refine OKS.e ?_
        cases hm828
        exact thenQ_n ⟨rfl, ⟨φ780, f796, f797, f798, f799, f803, rfl, (PHeap.Le.refl _), (hS789.pick [2, 3, 0] _ (by decide) rfl)⟩⟩
      ·rintro σ830 W831 ⟨φ832, f835, f836, f837, f838, f839, f840, le833, hS834⟩
       by_cases c841 : b790 = true
       ·have hm842 := hm793; rw [if_pos c841] at hm842; replace c841 := Hid.mk c841
        refine CK.condT (f840.trans (congrArg Value.bool c841.out)) ?_
        refine CK.seq ?_
        refine CK.reg (ks := []) (.fl 0 (.nil)) rfl ?_
        refine OKS.ra rfl rfl rfl rfl rfl rfl ?_
        refine OKS.e ?_
        refine thenQ_n ?_
        refine CK.ret ?_
        refine thenQ_r ?_
        cases hm842
        exact ⟨rfl, _, (res1 rfl), φ832, _, (hS834.pick [] _ (by decide) rfl), rfl, rfl⟩
       ·have hm843 := hm793; rw [if_neg c841] at hm843; replace c841 := Hid.mk c841
        refine CK.condF (f840.trans (congrArg Value.bool (Bool.eq_false_iff.2 c841.out))) ?_
        refine CK.skip ?_
        refine thenQ_n ?_
        refine CK.seq ?_
        refine CK.seq ?_
        refine CK.reg (ks := []) (.fl 0 (.nil)) rfl ?_
        refine OKS.rm rfl rfl rfl rfl rfl f838 ?_
        refine OKS.e ?_
        refine thenQ_n ?_
        by_cases c844 : x746 = true
        ·have hm845 := hm843; rw [if_pos c844] at hm845; replace c844 := Hid.mk c844
         refine CK.condT (congrArg Value.bool c844.out) ?_
         refine CK.seq ?_
         refine CK.reg (ks := []) (.fl 0 (.fl 1 (.fl 2 (.fx 3 (.fl 4 (.fl 5 (.fl 6 (.fl 7 (.fl 8 (.nil)))))) .stop)))) rfl ?_
         refine OKS.rm rfl rfl rfl rfl rfl f837 ?_
         refine OKS.rm rfl rfl rfl rfl rfl f836 ?_
         refine OKS.rm rfl rfl rfl rfl rfl f839 ?_
         have q := hS834.freezeT (k := 2) (n := x776.length) rfl (flatMap_len (f := encT_target_Step) (sz := 2) (fun _ => rfl) x776) (by decide)
         obtain ⟨φ847, le848, hs849, hS850, th846⟩ := q
         have hS851 : St ⟨w, [], φ⟩ φ847 [.blk b48 141 [.slice A630 y627.length c631, .int .i64 y628, .int .u32 y629], .blk b10 141 [.slice A31 x18.bytes.length c32, .int .i64 x18.next, .int .u32 x18.state]] W831 := hS850
         have h852 := h775.le le784
         have h853 := h852.le le833
         have h854 := h853.le le848
         have h855 := hs772.le le784
         have h856 := h855.le le833
         have h857 := h856.le le848
         have q := bnd hm845
         obtain ⟨⟨x858, x859⟩, h860, hm861⟩ := q
         try dsimp only at hm861
         refine OKS.callH 0 rfl rfl rfl rfl (Enters.mk rfl rfl Try.call17 (mapcons rfl (mapcons rfl (mapcons rfl mapnil))) rfl) hS851 (fun hs => w_target_RoundShows y99 A172 c173 x725 A728 c729 x776 A786 c787 W831 φ847 hs h854 h857 hs849 h860) (.inr rfl) ?_
         rintro φ862 L863 v864 W865 le866 hS867 ⟨rfl, rfl⟩
         have hS868 : St ⟨w, [], φ⟩ φ862 [.blk b48 141 [.slice A630 y627.length c631, .int .i64 y628, .int .u32 y629], .blk b10 141 [.slice A31 x18.bytes.length c32, .int .i64 x18.next, .int .u32 x18.state]] W865 := hS867
         have q := th846 _ _ _ le866 hS868
         obtain ⟨φ869, le870, hS871⟩ := q
         have hS872 : St ⟨w, [], φ⟩ φ869 [.row A786 c787 35 2 (List.flatMap encT_target_Step x776), .blk b48 141 [.slice A630 y627.length c631, .int .i64 y628, .int .u32 y629], .blk b10 141 [.slice A31 x18.bytes.length c32, .int .i64 x18.next, .int .u32 x18.state]] W865 := hS871
         refine OKS.rm rfl rfl rfl rfl rfl rfl ?_
         refine OKS.r rfl rfl rfl rfl (fun _ => Runs.ext rfl rfl (v := .int .i64 x858) rfl) ?_
         refine OKS.r rfl rfl rfl rfl (fun _ => Runs.ext rfl rfl (v := .int .i64 x859) rfl) ?_
         refine OKS.ra rfl rfl rfl rfl rfl rfl ?_
         refine OKS.ra rfl rfl rfl rfl rfl rfl ?_
         refine OKS.e ?_
         refine thenQ_n ?_
         refine CK.seq ?_
         refine CK.reg (ks := []) (.fl 0 (.fl 1 (.fl 2 (.fl 3 (.fl 4 (.fl 5 (.nil))))))) rfl ?_
         refine OKS.rm rfl rfl rfl rfl rfl rfl ?_
         refine OKS.r rfl rfl rfl rfl (fun _ => Runs.neq rfl rfl rfl) ?_
         refine OKS.rm rfl rfl rfl rfl rfl rfl ?_
         by_cases c873 : x859 = 0
         ·have hm874 := hm861; rw [if_pos c873] at hm874; replace c873 := Hid.mk c873
          refine OKS.rm rfl rfl rfl (wantedY rfl rfl (decF (fun h => h c873.out))) rfl rfl ?_
          refine OKS.r rfl rfl rfl (wantedY rfl rfl (decF (fun h => h c873.out))) (fun _ => Runs.geq rfl rfl rfl) ?_
          refine OKS.r rfl rfl rfl rfl (fun _ => Runs.pickF rfl (decF (fun h => h c873.out)) rfl) ?_
          refine OKS.e ?_
          refine thenQ_n ?_
          by_cases c875 : 0 ≤ x858
          ·have hm876 := hm874; rw [if_pos c875] at hm876; replace c875 := Hid.mk c875
           refine CK.condT (decT c875.out) ?_
           refine CK.seq ?_
           refine CK.reg (ks := []) (.fl 0 (.nil)) rfl ?_
           refine OKS.ra rfl rfl rfl rfl rfl rfl ?_
           refine OKS.e ?_
           refine thenQ_n ?_
           refine CK.ret ?_
           refine thenQ_r ?_
           cases hm876
           exact ⟨rfl, _, (res1 rfl), φ869, _, (hS872.pick [] _ (by decide) rfl), rfl, rfl⟩
          ·have hm877 := hm874; rw [if_neg c875] at hm877; replace c875 := Hid.mk c875
           refine CK.condF (decF c875.out) ?_
           refine CK.skip ?_
           refine thenQ_n ?_
           refine CK.seq ?_
           refine CK.reg (ks := []) (.fl 0 (.nil)) rfl ?_
           refine OKS.ra rfl rfl rfl rfl rfl rfl ?_
           refine OKS.e ?_
           refine thenQ_n ?_
           refine CK.seq ?_
           refine CK.reg (ks := []) (.fl 0 (.nil)) rfl ?_
           refine OKS.ra rfl rfl rfl rfl rfl rfl ?_
           refine OKS.e ?_
           refine thenQ_n ?_
           refine CK.seq ?_
           refine CK.seq ?_
           refine CK.reg (ks := []) (.fl 0 (.fl 1 (.fl 2 (.nil)))) rfl ?_
           refine OKS.rm rfl rfl rfl rfl rfl f835 ?_
           refine OKS.r rfl rfl rfl rfl (fun _ => Runs.len rfl rfl Try.runUnderlying22) ?_
           refine OKS.rm rfl rfl rfl rfl rfl rfl ?_
           refine OKS.e ?_
           refine thenQ_n ?_
           refine CK.block ?_
           have q := bnd hm877
           obtain ⟨⟨y904, y905⟩, hf901, hm900⟩ := q
           try dsimp only at hm900
           have q := forR'_le hf901
           obtain ⟨hle902, hf903⟩ := q
           replace hle902 := Hid.mk hle902
           refine CK.forN' (fun k899 (l894, b898) σ_ w_ => ∃ (φ_ : PHeap) (A895 : Option Addr) (c896 : Nat), σ_ 214 = .int .i64 (↑k899 : Int) ∧ σ_ 13 = .slice A172 y99.length c173 ∧ σ_ 29 = .slice A895 l894.length c896 ∧ σ_ 30 = .bool b898 ∧ σ_ 212 = .slice A27 x16.length c28 ∧ σ_ 213 = .int .i64 (↑x16.length : Int) ∧ PHeap.Le φ869 φ_ ∧ St ⟨w, [], φ⟩ φ_ [.blk b48 141 [.slice A630 y627.length c631, .int .i64 y628, .int .u32 y629], .blk b10 141 [.slice A31 x18.bytes.length c32, .int .i64 x18.next, .int .u32 x18.state], .row A895 c896 31 4 (List.flatMap encT_target_Sheet l894)] w_) hf903 ?_ ?_ ?_
           ·have hS906 := hS872.nilrow 31 4
            exact ⟨φ869, none, 0, rfl, f837, rfl, rfl, rfl, rfl, (PHeap.Le.refl _), (hS906.pick [2, 3, 0] _ (by decide) rfl)⟩
           ·rintro k899 ⟨l894, b898⟩ xx910 σ908 W909 hk913 ⟨φ915, A895, c896, fi914, f918, f919, f920, f921, f922, le916, hS917⟩ hx911
            try dsimp only at hx911
            have c923 : Hid ((↑k899 : Int) < (↑x16.length : Int)) := Hid.mk (lp_lt0 hk913)
            replace hk913 := Hid.mk hk913
            have hi924 : Hid (w64 ((↑k899 : Int) + 1) = (↑(k899 + 1) : Int)) := Hid.mk (by have h1 := hle902.out; have h2 := c923.out; rw [w64_in] <;> omega)
            refine CK.seq ?_
            refine CK.reg (ks := []) (.fl 0 (.nil)) rfl ?_
            refine OKS.r rfl rfl rfl rfl (fun _ => Runs.lss rfl fi914 f922) ?_
            refine OKS.e ?_
            refine thenQ_n ?_
            refine CK.seq ?_
            refine CK.condT (decT c923.out) ?_
            refine CK.skip ?_
            refine thenQ_n ?_
            refine CK.seq ?_
            refine CK.block ?_
            refine CK.seq ?_
            refine CK.reg (ks := []) (.fl 0 (.fl 1 (.fl 2 (.fl 3 (.fl 4 (.nil)))))) rfl ?_
            refine OKS.rm rfl rfl rfl rfl rfl fi914 ?_
            have q := bnd hx911
            obtain ⟨x925, h926, hm927⟩ := q
            have h928 := h34.le le46
            have h929 := h928.le le175
            have h930 := h929.le le216
            have h931 := h930.le le633
            have h932 := h931.le le672
            have h933 := h932.le le717
            have h934 := h933.le le762
            have h935 := h934.le le766
            have h936 := h935.le le771
            have h937 := h936.le le784
            have h938 := h937.le le833
            have h939 := h938.le le870
            have h940 := h939.le le916
            have q := h940.el (fun _ => rfl) (idx_get h926)
            obtain ⟨b941, off942, hA943, hC944⟩ := q
            refine OKS.r rfl rfl rfl rfl (fun _ => Runs.iaN rfl f921 hA943 fi914 Try.runUnderlying22 Try.sizeOf3 (idx_lt h926)) ?_
            refine OKS.m rfl rfl rfl rfl (hS917.ldC (f := 0) hC944 (v := .int .i64 x925) rfl rfl Try.isAgg3 rfl) rfl ?_
            refine OKS.ra rfl rfl rfl rfl rfl rfl ?_
            refine OKS.ra rfl rfl rfl rfl rfl rfl ?_
            refine OKS.e ?_
            refine thenQ_n ?_
            refine CK.seq ?_
            refine CK.reg (ks := []) (.fl 0 (.fl 1 (.fl 2 (.fl 3 (.fl 4 (.fx 5 (.fl 6 (.fx 7 (.fx 8 (.fl 9 (.nil)) .stop) .stop)) .stop)))))) rfl ?_
            refine OKS.rm rfl rfl rfl rfl rfl f919 ?_
            refine OKS.rm rfl rfl rfl rfl rfl rfl ?_
            refine OKS.rm rfl rfl rfl rfl rfl rfl ?_
            refine OKS.rm rfl rfl rfl rfl rfl rfl ?_
            refine OKS.rm rfl rfl rfl rfl rfl rfl ?_
            have q := bnd hm927
            obtain ⟨x945, h946, hm947⟩ := q
            refine OKS.callH 0 rfl rfl rfl rfl (Enters.mk rfl rfl Try.call23 (mapcons rfl (mapcons rfl mapnil)) rfl) hS917 (fun hs => w_klisterlaw03_span x925 x925 W909 φ915 hs h946) (.inr rfl) ?_
            rintro φ948 L949 v950 W951 le952 hS953 ⟨rfl, rfl⟩
            have hS954 : St ⟨w, [], φ⟩ φ948 [.blk b48 141 [.slice A630 y627.length c631, .int .i64 y628, .int .u32 y629], .blk b10 141 [.slice A31 x18.bytes.length c32, .int .i64 x18.next, .int .u32 x18.state], .row A895 c896 31 4 (List.flatMap encT_target_Sheet l894)] W951 := hS953
            refine OKS.r rfl rfl rfl rfl (fun _ => Runs.build (pv := [(0, .int .i64 (↑k899 : Int)), (1, .int .i64 (↑k899 : Int)), (2, .agg #[.int .i64 x945.Lo, .int .i64 x945.Hi])]) (z := [.int .i64 0, .int .i64 0, .int .i64 0, .int .i64 0]) (cs := [.int .i64 (↑k899 : Int), .int .i64 (↑k899 : Int), .int .i64 x945.Lo, .int .i64 x945.Hi]) rfl (mapcons2 rfl (mapcons2 rfl (mapcons2 rfl mapnil2))) Try.zeroValue31 places31 rfl rfl) ?_
            refine OKS.buildSlice (pv := [(0, .agg #[.int .i64 (↑k899 : Int), .int .i64 (↑k899 : Int), .int .i64 x945.Lo, .int .i64 x945.Hi])]) (zs := [.int .i64 0, .int .i64 0, .int .i64 0, .int .i64 0]) (cs := [.int .i64 (↑k899 : Int), .int .i64 (↑k899 : Int), .int .i64 x945.Lo, .int .i64 x945.Hi]) rfl rfl rfl rfl rfl (mapcons2 rfl mapnil2) Try.runUnderlying23 Try.sizeOf31 Try.zeroValue31 rfl rfl rfl rfl rfl hS954 ?_
            intro W955 b956 hS957
            have hS959 : St ⟨w, [], φ⟩ φ948 [.row (some ⟨b956, 0, none⟩) 1 31 4 (List.flatMap encT_target_Sheet [(⟨(↑k899 : Int), (↑k899 : Int), x945⟩ : T_target_Sheet)]), .blk b48 141 [.slice A630 y627.length c631, .int .i64 y628, .int .u32 y629], .blk b10 141 [.slice A31 x18.bytes.length c32, .int .i64 x18.next, .int .u32 x18.state], .row A895 c896 31 4 (List.flatMap encT_target_Sheet l894)] W955 := hS957
            have q := bnd hm947
            obtain ⟨x960, h961, hm962⟩ := q
            refine OKS.append (j := 3) (enc := encT_target_Sheet) (xs := l894) (ys := [(⟨(↑k899 : Int), (↑k899 : Int), x945⟩ : T_target_Sheet)]) (zs := x960) rfl rfl rfl rfl rfl Try.underlying23 info31 rfl rfl rfl rfl rfl rfl hS959 rfl rfl rfl (hS959.srcR (j := 0) rfl (by decide) (flatMap_len (f := encT_target_Sheet) (sz := 4) (fun _ => rfl) [(⟨(↑k899 : Int), (↑k899 : Int), x945⟩ : T_target_Sheet)])) (fun _ => rfl) (fun _ => rfl) h961 rfl ?_
            intro A963 c964 W965 hS966
            have hS967 : St ⟨w, [], φ⟩ φ948 [.row (some ⟨b956, 0, none⟩) 1 31 4 (List.flatMap encT_target_Sheet [(⟨(↑k899 : Int), (↑k899 : Int), x945⟩ : T_target_Sheet)]), .blk b48 141 [.slice A630 y627.length c631, .int .i64 y628, .int .u32 y629], .blk b10 141 [.slice A31 x18.bytes.length c32, .int .i64 x18.next, .int .u32 x18.state], .row A963 c964 31 4 (List.flatMap encT_target_Sheet x960)] W965 := hS966
            refine OKS.ra rfl rfl rfl rfl rfl rfl ?_
            refine OKS.e ?_
            refine thenQ_n ?_
            refine CK.reg (ks := []) (.fl 0 (.fl 1 (.fl 2 (.fl 3 (.fl 4 (.fl 5 (.fl 6 (.fl 7 (.fl 8 (.fl 9 (.nil))))))))))) rfl ?_
            refine OKS.rm rfl rfl rfl rfl rfl f920 ?_
            refine OKS.rm rfl rfl rfl rfl rfl rfl ?_
            by_cases c968 : b898 = true
            ·have hm969 := hm962; rw [if_pos c968] at hm969; replace c968 := Hid.mk c968
             refine OKS.p rfl rfl rfl (wantedN rfl rfl (congrArg Value.bool c968.out) rfl) ?_
             refine OKS.p rfl rfl rfl (wantedN rfl rfl (congrArg Value.bool c968.out) rfl) ?_
             refine OKS.p rfl rfl rfl (wantedN rfl rfl (congrArg Value.bool c968.out) rfl) ?_
             refine OKS.p rfl rfl rfl (wantedN rfl rfl (congrArg Value.bool c968.out) rfl) ?_
             refine OKS.p rfl rfl rfl (wantedN rfl rfl (congrArg Value.bool c968.out) rfl) ?_
             refine OKS.p rfl rfl rfl (wantedN rfl rfl (congrArg Value.bool c968.out) rfl) ?_
             refine OKS.r rfl rfl rfl rfl (fun _ => Runs.pickT rfl (congrArg Value.bool c968.out) rfl) ?_
             refine OKS.ra rfl rfl rfl rfl rfl rfl ?_
             refine OKS.e ?_
             refine blockQ_n ?_
             refine thenQ_n ?_
             refine CK.reg (ks := []) (.fl 0 (.fl 1 (.nil))) rfl ?_
             refine OKS.r rfl rfl rfl rfl (fun _ => Runs.to (Runs.addw rfl fi914 rfl) (congrArg (Value.int .i64) hi924.out)) ?_
             refine OKS.rm rfl rfl rfl rfl rfl rfl ?_
             refine OKS.e ?_
             cases hm969
             exact thenQ_n ⟨rfl, ⟨φ948, A963, c964, rfl, f918, rfl, rfl, f921, f922, (le916.trans le952), (hS967.pick [1, 2, 3] _ (by decide) rfl)⟩⟩
            ·have hm974 := hm962; rw [if_neg c968] at hm974; replace c968 := Hid.mk c968
             refine OKS.rm rfl rfl rfl (wantedY rfl rfl (congrArg Value.bool (Bool.eq_false_iff.2 c968.out))) rfl rfl ?_
             refine OKS.rm rfl rfl rfl (wantedY rfl rfl (congrArg Value.bool (Bool.eq_false_iff.2 c968.out))) rfl f918 ?_
             refine OKS.rm rfl rfl rfl (wantedY rfl rfl (congrArg Value.bool (Bool.eq_false_iff.2 c968.out))) rfl rfl ?_
             have q := bnd hm974
             obtain ⟨x975, h976, hm977⟩ := q
             have h978 := h775.le le784
             have h979 := h978.le le833
             have h980 := h979.le le870
             have h981 := h980.le le916
             have h982 := h981.le le952
             have q := h982.el (fun _ => rfl) (idx_get h976)
             obtain ⟨b983, off984, hA985, hC986⟩ := q
             refine OKS.r rfl rfl rfl (wantedY rfl rfl (congrArg Value.bool (Bool.eq_false_iff.2 c968.out))) (fun _ => Runs.iaN rfl rfl hA985 rfl Try.runUnderlying22 Try.sizeOf3 (idx_lt h976)) ?_
             refine OKS.m rfl rfl rfl (wantedY rfl rfl (congrArg Value.bool (Bool.eq_false_iff.2 c968.out))) (hS967.ldC (f := 0) hC986 (v := .int .i64 x975) rfl rfl Try.isAgg3 rfl) rfl ?_
             refine OKS.r rfl rfl rfl (wantedY rfl rfl (congrArg Value.bool (Bool.eq_false_iff.2 c968.out))) (fun _ => Runs.lss rfl rfl rfl) ?_
             refine OKS.r rfl rfl rfl rfl (fun _ => Runs.pickF rfl (congrArg Value.bool (Bool.eq_false_iff.2 c968.out)) rfl) ?_
             refine OKS.ra rfl rfl rfl rfl rfl rfl ?_
             refine OKS.e ?_
             refine blockQ_n ?_
             refine thenQ_n ?_
             refine CK.reg (ks := []) (.fl 0 (.fl 1 (.nil))) rfl ?_
             refine OKS.r rfl rfl rfl rfl (fun _ => Runs.to (Runs.addw rfl fi914 rfl) (congrArg (Value.int .i64) hi924.out)) ?_
             refine OKS.rm rfl rfl rfl rfl rfl rfl ?_
             refine OKS.e ?_
             cases hm977
             exact thenQ_n ⟨rfl, ⟨φ948, A963, c964, rfl, f918, rfl, rfl, f921, f922, (le916.trans le952), (hS967.pick [1, 2, 3] _ (by decide) rfl)⟩⟩
           ·rintro σ991 W992 ⟨φ1001, A999, c1000, fi994, f1004, f1005, f1006, f1007, f1008, le1002, hS1003⟩
            have c1009 : Hid (¬ ((↑(((↑x16.length : Int) : Int) - 0).toNat : Int) < (↑x16.length : Int))) := Hid.mk (lp_end0)
            refine CK.seq ?_
            refine CK.reg (ks := []) (.fl 0 (.nil)) rfl ?_
            refine OKS.r rfl rfl rfl rfl (fun _ => Runs.lss rfl fi994 f1008) ?_
            refine OKS.e ?_
            refine thenQ_n ?_
            refine CK.seq ?_
            refine CK.condF (decF c1009.out) ?_
            refine CK.exit ?_
            refine thenQ_e ?_
            refine thenQ_e ?_
            refine blockQ_h ?_
            refine thenQ_n ?_
            refine CK.seq ?_
            refine CK.reg (ks := []) (.fl 0 (.fl 1 (.fx 2 (.fl 3 (.fl 4 (.fl 5 (.fl 6 (.fl 7 (.nil)))))) .stop))) rfl ?_
            refine OKS.rm rfl rfl rfl rfl rfl f1004 ?_
            refine OKS.rm rfl rfl rfl rfl rfl f1005 ?_
            have q := hS1003.freezeT (k := 2) (n := y904.length) rfl (flatMap_len (f := encT_target_Sheet) (sz := 4) (fun _ => rfl) y904) (by decide)
            obtain ⟨φ1011, le1012, hs1013, hS1014, th1010⟩ := q
            have hS1015 : St ⟨w, [], φ⟩ φ1011 [.blk b48 141 [.slice A630 y627.length c631, .int .i64 y628, .int .u32 y629], .blk b10 141 [.slice A31 x18.bytes.length c32, .int .i64 x18.next, .int .u32 x18.state]] W992 := hS1014
            have h1016 := h775.le le784
            have h1017 := h1016.le le833
            have h1018 := h1017.le le870
            have h1019 := h1018.le le1002
            have h1020 := h1019.le le1012
            have q := bnd hm900
            obtain ⟨⟨x1021, x1022⟩, h1023, hm1024⟩ := q
            try dsimp only at hm1024
            refine OKS.callH 0 rfl rfl rfl rfl (Enters.mk rfl rfl Try.call15 (mapcons rfl (mapcons rfl mapnil)) rfl) hS1015 (fun hs => w_target_Few y99 A172 c173 y904 A999 c1000 W992 φ1011 hs h1020 hs1013 h1023) (.inr rfl) ?_
            rintro φ1025 L1026 v1027 W1028 le1029 hS1030 ⟨rfl, rfl⟩
            have hS1031 : St ⟨w, [], φ⟩ φ1025 [.blk b48 141 [.slice A630 y627.length c631, .int .i64 y628, .int .u32 y629], .blk b10 141 [.slice A31 x18.bytes.length c32, .int .i64 x18.next, .int .u32 x18.state]] W1028 := hS1030
            have q := th1010 _ _ _ le1029 hS1031
            obtain ⟨φ1032, le1033, hS1034⟩ := q
            have hS1035 : St ⟨w, [], φ⟩ φ1032 [.row A999 c1000 31 4 (List.flatMap encT_target_Sheet y904), .blk b48 141 [.slice A630 y627.length c631, .int .i64 y628, .int .u32 y629], .blk b10 141 [.slice A31 x18.bytes.length c32, .int .i64 x18.next, .int .u32 x18.state]] W1028 := hS1034
            refine OKS.rm rfl rfl rfl rfl rfl rfl ?_
            refine OKS.r rfl rfl rfl rfl (fun _ => Runs.ext rfl rfl (v := .bool x1021) rfl) ?_
            refine OKS.r rfl rfl rfl rfl (fun _ => Runs.ext rfl rfl (v := .int .i64 x1022) rfl) ?_
            refine OKS.ra rfl rfl rfl rfl rfl rfl ?_
            refine OKS.ra rfl rfl rfl rfl rfl rfl ?_
            refine OKS.e ?_
            refine thenQ_n ?_
            refine CK.seq ?_
            refine CK.reg (ks := []) (.fl 0 (.fl 1 (.fl 2 (.fl 3 (.fl 4 (.fl 5 (.fl 6 (.fl 7 (.fx 8 (.fl 9 (.fl 10 (.nil))) .stop))))))))) rfl ?_
            refine OKS.rm rfl rfl rfl rfl rfl rfl ?_
            refine OKS.r rfl rfl rfl rfl (fun _ => Runs.eql rfl rfl rfl) ?_
            refine OKS.rm rfl rfl rfl rfl rfl rfl ?_
            by_cases c1036 : x1022 = 0
            ·have hm1037 := hm1024; rw [if_pos c1036] at hm1037; replace c1036 := Hid.mk c1036
             refine OKS.rm rfl rfl rfl (wantedY rfl rfl (decT c1036.out)) rfl rfl ?_
             refine OKS.rm rfl rfl rfl (wantedY rfl rfl (decT c1036.out)) rfl f1006 ?_
             refine OKS.r rfl rfl rfl (wantedY rfl rfl (decT c1036.out)) (fun _ => Runs.eqB rfl rfl rfl Try.runUnderlying4) ?_
             refine OKS.r rfl rfl rfl rfl (fun _ => Runs.pickT rfl (decT c1036.out) rfl) ?_
             refine OKS.rm rfl rfl rfl rfl rfl rfl ?_
             by_cases c1038 : (x1021 == y905) = true
             ·have hm1039 := hm1037; rw [if_pos c1038] at hm1039; replace c1038 := Hid.mk c1038
              have q := bnd hm1039
              obtain ⟨x1040, h1041, hm1042⟩ := q
              refine OKS.callH 0 rfl rfl rfl (wantedY rfl rfl (congrArg Value.bool c1038.out)) (Enters.mk rfl rfl Try.call10 mapnil rfl) hS1035 (fun hs => w_klisterlaw03_awake W1028 φ1032 hs h1041) (.inr rfl) ?_
              rintro φ1043 L1044 v1045 W1046 le1047 hS1048 ⟨rfl, rfl⟩
              have hS1049 : St ⟨w, [], φ⟩ φ1043 [.row A999 c1000 31 4 (List.flatMap encT_target_Sheet y904), .blk b48 141 [.slice A630 y627.length c631, .int .i64 y628, .int .u32 y629], .blk b10 141 [.slice A31 x18.bytes.length c32, .int .i64 x18.next, .int .u32 x18.state]] W1046 := hS1048
              refine OKS.r rfl rfl rfl rfl (fun _ => Runs.pickT rfl (congrArg Value.bool c1038.out) rfl) ?_
              refine OKS.ra rfl rfl rfl rfl rfl rfl ?_
              refine OKS.e ?_
              refine thenQ_n ?_
              refine CK.ret ?_
              cases hm1042
              exact ⟨rfl, _, (res1 rfl), φ1043, _, (hS1049.pick [] _ (by decide) rfl), rfl, rfl⟩
             ·have hm1050 := hm1037; rw [if_neg c1038] at hm1050; replace c1038 := Hid.mk c1038
              refine OKS.px rfl rfl rfl (wantedN rfl rfl (congrArg Value.bool (Bool.eq_false_iff.2 c1038.out)) rfl) ?_
              refine OKS.r rfl rfl rfl rfl (fun _ => Runs.pickF rfl (congrArg Value.bool (Bool.eq_false_iff.2 c1038.out)) rfl) ?_
              refine OKS.ra rfl rfl rfl rfl rfl rfl ?_
              refine OKS.e ?_
              refine thenQ_n ?_
              refine CK.ret ?_
              cases hm1050
              exact ⟨rfl, _, (res1 rfl), φ1032, _, (hS1035.pick [] _ (by decide) rfl), rfl, rfl⟩
            ·have hm1051 := hm1024; rw [if_neg c1036] at hm1051; replace c1036 := Hid.mk c1036
             refine OKS.p rfl rfl rfl (wantedN rfl rfl (decF c1036.out) rfl) ?_
             refine OKS.p rfl rfl rfl (wantedN rfl rfl (decF c1036.out) rfl) ?_
             refine OKS.p rfl rfl rfl (wantedN rfl rfl (decF c1036.out) rfl) ?_
             refine OKS.r rfl rfl rfl rfl (fun _ => Runs.pickF rfl (decF c1036.out) rfl) ?_
             refine OKS.rm rfl rfl rfl rfl rfl rfl ?_
             refine OKS.px rfl rfl rfl (wantedN rfl rfl rfl rfl) ?_
             refine OKS.r rfl rfl rfl rfl (fun _ => Runs.pickF rfl rfl rfl) ?_
             refine OKS.ra rfl rfl rfl rfl rfl rfl ?_
             refine OKS.e ?_
             refine thenQ_n ?_
             refine CK.ret ?_
             cases hm1051
             exact ⟨rfl, _, (res1 rfl), φ1032, _, (hS1035.pick [] _ (by decide) rfl), rfl, rfl⟩
         ·have hm1052 := hm861; rw [if_neg c873] at hm1052; replace c873 := Hid.mk c873
          refine OKS.p rfl rfl rfl (wantedN rfl rfl (decT c873.out) rfl) ?_
          refine OKS.p rfl rfl rfl (wantedN rfl rfl (decT c873.out) rfl) ?_
          refine OKS.r rfl rfl rfl rfl (fun _ => Runs.pickT rfl (decT c873.out) rfl) ?_
          refine OKS.e ?_
          refine thenQ_n ?_
          refine CK.condT rfl ?_
          refine CK.seq ?_
          refine CK.reg (ks := []) (.fl 0 (.nil)) rfl ?_
          refine OKS.ra rfl rfl rfl rfl rfl rfl ?_
          refine OKS.e ?_
          refine thenQ_n ?_
          refine CK.ret ?_
          refine thenQ_r ?_
          cases hm1052
          exact ⟨rfl, _, (res1 rfl), φ869, _, (hS872.pick [] _ (by decide) rfl), rfl, rfl⟩
        ·have hm1053 := hm843; rw [if_neg c844] at hm1053; replace c844 := Hid.mk c844
         refine CK.condF (congrArg Value.bool (Bool.eq_false_iff.2 c844.out)) ?_
         refine CK.skip ?_
         refine thenQ_n ?_
         refine CK.seq ?_
         refine CK.reg (ks := []) (.fl 0 (.nil)) rfl ?_
         refine OKS.ra rfl rfl rfl rfl rfl rfl ?_
         refine OKS.e ?_
         refine thenQ_n ?_
         refine CK.seq ?_
         refine CK.reg (ks := []) (.fl 0 (.nil)) rfl ?_
         refine OKS.ra rfl rfl rfl rfl rfl rfl ?_
         refine OKS.e ?_
         refine thenQ_n ?_
         refine CK.seq ?_
         refine CK.seq ?_
         refine CK.reg (ks := []) (.fl 0 (.fl 1 (.fl 2 (.nil)))) rfl ?_
         refine OKS.rm rfl rfl rfl rfl rfl f835 ?_
         refine OKS.r rfl rfl rfl rfl (fun _ => Runs.len rfl rfl Try.runUnderlying22) ?_
         refine OKS.rm rfl rfl rfl rfl rfl rfl ?_
         refine OKS.e ?_
         refine thenQ_n ?_
         refine CK.block ?_
         have q := bnd hm1053
         obtain ⟨⟨y1080, y1081⟩, hf1077, hm1076⟩ := q
         try dsimp only at hm1076
         have q := forR'_le hf1077
         obtain ⟨hle1078, hf1079⟩ := q
         replace hle1078 := Hid.mk hle1078
         refine CK.forN' (fun k1075 (l1070, b1074) σ_ w_ => ∃ (φ_ : PHeap) (A1071 : Option Addr) (c1072 : Nat), σ_ 214 = .int .i64 (↑k1075 : Int) ∧ σ_ 13 = .slice A172 y99.length c173 ∧ σ_ 29 = .slice A1071 l1070.length c1072 ∧ σ_ 30 = .bool b1074 ∧ σ_ 212 = .slice A27 x16.length c28 ∧ σ_ 213 = .int .i64 (↑x16.length : Int) ∧ PHeap.Le φ832 φ_ ∧ St ⟨w, [], φ⟩ φ_ [.blk b48 141 [.slice A630 y627.length c631, .int .i64 y628, .int .u32 y629], .blk b10 141 [.slice A31 x18.bytes.length c32, .int .i64 x18.next, .int .u32 x18.state], .row A1071 c1072 31 4 (List.flatMap encT_target_Sheet l1070)] w_) hf1079 ?_ ?_ ?_
         ·have hS1082 := hS834.nilrow 31 4
          exact ⟨φ832, none, 0, rfl, f837, rfl, rfl, rfl, rfl, (PHeap.Le.refl _), (hS1082.pick [1, 2, 0] _ (by decide) rfl)⟩
         ·rintro k1075 ⟨l1070, b1074⟩ xx1086 σ1084 W1085 hk1089 ⟨φ1091, A1071, c1072, fi1090, f1094, f1095, f1096, f1097, f1098, le1092, hS1093⟩ hx1087
          try dsimp only at hx1087
          have c1099 : Hid ((↑k1075 : Int) < (↑x16.length : Int)) := Hid.mk (lp_lt0 hk1089)
          replace hk1089 := Hid.mk hk1089
          have hi1100 : Hid (w64 ((↑k1075 : Int) + 1) = (↑(k1075 + 1) : Int)) := Hid.mk (by have h1 := hle1078.out; have h2 := c1099.out; rw [w64_in] <;> omega)
          refine CK.seq ?_
          refine CK.reg (ks := []) (.fl 0 (.nil)) rfl ?_
          refine OKS.r rfl rfl rfl rfl (fun _ => Runs.lss rfl fi1090 f1098) ?_
          refine OKS.e ?_
          refine thenQ_n ?_
          refine CK.seq ?_
          refine CK.condT (decT c1099.out) ?_
          refine CK.skip ?_
          refine thenQ_n ?_
          refine CK.seq ?_
          refine CK.block ?_
          refine CK.seq ?_
          refine CK.reg (ks := []) (.fl 0 (.fl 1 (.fl 2 (.fl 3 (.fl 4 (.nil)))))) rfl ?_
          refine OKS.rm rfl rfl rfl rfl rfl fi1090 ?_
          have q := bnd hx1087
          obtain ⟨x1101, h1102, hm1103⟩ := q
          have h1104 := h34.le le46
          have h1105 := h1104.le le175
          have h1106 := h1105.le le216
          have h1107 := h1106.le le633
          have h1108 := h1107.le le672
          have h1109 := h1108.le le717
          have h1110 := h1109.le le762
          have h1111 := h1110.le le766
          have h1112 := h1111.le le771
          have h1113 := h1112.le le784
          have h1114 := h1113.le le833
          have h1115 := h1114.le le1092
          have q := h1115.el (fun _ => rfl) (idx_get h1102)
          obtain ⟨b1116, off1117, hA1118, hC1119⟩ := q
          refine OKS.r rfl rfl rfl rfl (fun _ => Runs.iaN rfl f1097 hA1118 fi1090 Try.runUnderlying22 Try.sizeOf3 (idx_lt h1102)) ?_
          refine OKS.m rfl rfl rfl rfl (hS1093.ldC (f := 0) hC1119 (v := .int .i64 x1101) rfl rfl Try.isAgg3 rfl) rfl ?_
          refine OKS.ra rfl rfl rfl rfl rfl rfl ?_
          refine OKS.ra rfl rfl rfl rfl rfl rfl ?_
          refine OKS.e ?_
          refine thenQ_n ?_
          refine CK.seq ?_
          refine CK.reg (ks := []) (.fl 0 (.fl 1 (.fl 2 (.fl 3 (.fl 4 (.fx 5 (.fl 6 (.fx 7 (.fx 8 (.fl 9 (.nil)) .stop) .stop)) .stop)))))) rfl ?_
          refine OKS.rm rfl rfl rfl rfl rfl f1095 ?_
          refine OKS.rm rfl rfl rfl rfl rfl rfl ?_
          refine OKS.rm rfl rfl rfl rfl rfl rfl ?_
          refine OKS.rm rfl rfl rfl rfl rfl rfl ?_
          refine OKS.rm rfl rfl rfl rfl rfl rfl ?_
          have q := bnd hm1103
          obtain ⟨x1120, h1121, hm1122⟩ := q
          refine OKS.callH 0 rfl rfl rfl rfl (Enters.mk rfl rfl Try.call23 (mapcons rfl (mapcons rfl mapnil)) rfl) hS1093 (fun hs => w_klisterlaw03_span x1101 x1101 W1085 φ1091 hs h1121) (.inr rfl) ?_
          rintro φ1123 L1124 v1125 W1126 le1127 hS1128 ⟨rfl, rfl⟩
          have hS1129 : St ⟨w, [], φ⟩ φ1123 [.blk b48 141 [.slice A630 y627.length c631, .int .i64 y628, .int .u32 y629], .blk b10 141 [.slice A31 x18.bytes.length c32, .int .i64 x18.next, .int .u32 x18.state], .row A1071 c1072 31 4 (List.flatMap encT_target_Sheet l1070)] W1126 := hS1128
          refine OKS.r rfl rfl rfl rfl (fun _ => Runs.build (pv := [(0, .int .i64 (↑k1075 : Int)), (1, .int .i64 (↑k1075 : Int)), (2, .agg #[.int .i64 x1120.Lo, .int .i64 x1120.Hi])]) (z := [.int .i64 0, .int .i64 0, .int .i64 0, .int .i64 0]) (cs := [.int .i64 (↑k1075 : Int), .int .i64 (↑k1075 : Int), .int .i64 x1120.Lo, .int .i64 x1120.Hi]) rfl (mapcons2 rfl (mapcons2 rfl (mapcons2 rfl mapnil2))) Try.zeroValue31 places31 rfl rfl) ?_
          refine OKS.buildSlice (pv := [(0, .agg #[.int .i64 (↑k1075 : Int), .int .i64 (↑k1075 : Int), .int .i64 x1120.Lo, .int .i64 x1120.Hi])]) (zs := [.int .i64 0, .int .i64 0, .int .i64 0, .int .i64 0]) (cs := [.int .i64 (↑k1075 : Int), .int .i64 (↑k1075 : Int), .int .i64 x1120.Lo, .int .i64 x1120.Hi]) rfl rfl rfl rfl rfl (mapcons2 rfl mapnil2) Try.runUnderlying23 Try.sizeOf31 Try.zeroValue31 rfl rfl rfl rfl rfl hS1129 ?_
          intro W1130 b1131 hS1132
          have hS1134 : St ⟨w, [], φ⟩ φ1123 [.row (some ⟨b1131, 0, none⟩) 1 31 4 (List.flatMap encT_target_Sheet [(⟨(↑k1075 : Int), (↑k1075 : Int), x1120⟩ : T_target_Sheet)]), .blk b48 141 [.slice A630 y627.length c631, .int .i64 y628, .int .u32 y629], .blk b10 141 [.slice A31 x18.bytes.length c32, .int .i64 x18.next, .int .u32 x18.state], .row A1071 c1072 31 4 (List.flatMap encT_target_Sheet l1070)] W1130 := hS1132
          have q := bnd hm1122
          obtain ⟨x1135, h1136, hm1137⟩ := q
          refine OKS.append (j := 3) (enc := encT_target_Sheet) (xs := l1070) (ys := [(⟨(↑k1075 : Int), (↑k1075 : Int), x1120⟩ : T_target_Sheet)]) (zs := x1135) rfl rfl rfl rfl rfl Try.underlying23 info31 rfl rfl rfl rfl rfl rfl hS1134 rfl rfl rfl (hS1134.srcR (j := 0) rfl (by decide) (flatMap_len (f := encT_target_Sheet) (sz := 4) (fun _ => rfl) [(⟨(↑k1075 : Int), (↑k1075 : Int), x1120⟩ : T_target_Sheet)])) (fun _ => rfl) (fun _ => rfl) h1136 rfl ?_
          intro A1138 c1139 W1140 hS1141
          have hS1142 : St ⟨w, [], φ⟩ φ1123 [.row (some ⟨b1131, 0, none⟩) 1 31 4 (List.flatMap encT_target_Sheet [(⟨(↑k1075 : Int), (↑k1075 : Int), x1120⟩ : T_target_Sheet)]), .blk b48 141 [.slice A630 y627.length c631, .int .i64 y628, .int .u32 y629], .blk b10 141 [.slice A31 x18.bytes.length c32, .int .i64 x18.next, .int .u32 x18.state], .row A1138 c1139 31 4 (List.flatMap encT_target_Sheet x1135)] W1140 := hS1141
          refine OKS.ra rfl rfl rfl rfl rfl rfl ?_
          refine OKS.e ?_
          refine thenQ_n ?_
          refine CK.reg (ks := []) (.fl 0 (.fl 1 (.fl 2 (.fl 3 (.fl 4 (.fl 5 (.fl 6 (.fl 7 (.fl 8 (.fl 9 (.nil))))))))))) rfl ?_
          refine OKS.rm rfl rfl rfl rfl rfl f1096 ?_
          refine OKS.rm rfl rfl rfl rfl rfl rfl ?_
          by_cases c1143 : b1074 = true
          ·have hm1144 := hm1137; rw [if_pos c1143] at hm1144; replace c1143 := Hid.mk c1143
           refine OKS.p rfl rfl rfl (wantedN rfl rfl (congrArg Value.bool c1143.out) rfl) ?_
           refine OKS.p rfl rfl rfl (wantedN rfl rfl (congrArg Value.bool c1143.out) rfl) ?_
           refine OKS.p rfl rfl rfl (wantedN rfl rfl (congrArg Value.bool c1143.out) rfl) ?_
           refine OKS.p rfl rfl rfl (wantedN rfl rfl (congrArg Value.bool c1143.out) rfl) ?_
           refine OKS.p rfl rfl rfl (wantedN rfl rfl (congrArg Value.bool c1143.out) rfl) ?_
           refine OKS.p rfl rfl rfl (wantedN rfl rfl (congrArg Value.bool c1143.out) rfl) ?_
           refine OKS.r rfl rfl rfl rfl (fun _ => Runs.pickT rfl (congrArg Value.bool c1143.out) rfl) ?_
           refine OKS.ra rfl rfl rfl rfl rfl rfl ?_
           refine OKS.e ?_
           refine blockQ_n ?_
           refine thenQ_n ?_
           refine CK.reg (ks := []) (.fl 0 (.fl 1 (.nil))) rfl ?_
           refine OKS.r rfl rfl rfl rfl (fun _ => Runs.to (Runs.addw rfl fi1090 rfl) (congrArg (Value.int .i64) hi1100.out)) ?_
           refine OKS.rm rfl rfl rfl rfl rfl rfl ?_
           refine OKS.e ?_
           cases hm1144
           exact thenQ_n ⟨rfl, ⟨φ1123, A1138, c1139, rfl, f1094, rfl, rfl, f1097, f1098, (le1092.trans le1127), (hS1142.pick [1, 2, 3] _ (by decide) rfl)⟩⟩
          ·have hm1149 := hm1137; rw [if_neg c1143] at hm1149; replace c1143 := Hid.mk c1143
           refine OKS.rm rfl rfl rfl (wantedY rfl rfl (congrArg Value.bool (Bool.eq_false_iff.2 c1143.out))) rfl rfl ?_
           refine OKS.rm rfl rfl rfl (wantedY rfl rfl (congrArg Value.bool (Bool.eq_false_iff.2 c1143.out))) rfl f1094 ?_
           refine OKS.rm rfl rfl rfl (wantedY rfl rfl (congrArg Value.bool (Bool.eq_false_iff.2 c1143.out))) rfl rfl ?_
           have q := bnd hm1149
           obtain ⟨x1150, h1151, hm1152⟩ := q
           have h1153 := h775.le le784
           have h1154 := h1153.le le833
           have h1155 := h1154.le le1092
           have h1156 := h1155.le le1127
           have q := h1156.el (fun _ => rfl) (idx_get h1151)
           obtain ⟨b1157, off1158, hA1159, hC1160⟩ := q
           refine OKS.r rfl rfl rfl (wantedY rfl rfl (congrArg Value.bool (Bool.eq_false_iff.2 c1143.out))) (fun _ => Runs.iaN rfl rfl hA1159 rfl Try.runUnderlying22 Try.sizeOf3 (idx_lt h1151)) ?_
           refine OKS.m rfl rfl rfl (wantedY rfl rfl (congrArg Value.bool (Bool.eq_false_iff.2 c1143.out))) (hS1142.ldC (f := 0) hC1160 (v := .int .i64 x1150) rfl rfl Try.isAgg3 rfl) rfl ?_
           refine OKS.r rfl rfl rfl (wantedY rfl rfl (congrArg Value.bool (Bool.eq_false_iff.2 c1143.out))) (fun _ => Runs.lss rfl rfl rfl) ?_
           refine OKS.r rfl rfl rfl rfl (fun _ => Runs.pickF rfl (congrArg Value.bool (Bool.eq_false_iff.2 c1143.out)) rfl) ?_
           refine OKS.ra rfl rfl rfl rfl rfl rfl ?_
           refine OKS.e ?_
           refine blockQ_n ?_
           refine thenQ_n ?_
           refine CK.reg (ks := []) (.fl 0 (.fl 1 (.nil))) rfl ?_
           refine OKS.r rfl rfl rfl rfl (fun _ => Runs.to (Runs.addw rfl fi1090 rfl) (congrArg (Value.int .i64) hi1100.out)) ?_
           refine OKS.rm rfl rfl rfl rfl rfl rfl ?_
           refine OKS.e ?_
           cases hm1152
           exact thenQ_n ⟨rfl, ⟨φ1123, A1138, c1139, rfl, f1094, rfl, rfl, f1097, f1098, (le1092.trans le1127), (hS1142.pick [1, 2, 3] _ (by decide) rfl)⟩⟩
         ·rintro σ1165 W1166 ⟨φ1175, A1173, c1174, fi1168, f1178, f1179, f1180, f1181, f1182, le1176, hS1177⟩
          have c1183 : Hid (¬ ((↑(((↑x16.length : Int) : Int) - 0).toNat : Int) < (↑x16.length : Int))) := Hid.mk (lp_end0)
          refine CK.seq ?_
          refine CK.reg (ks := []) (.fl 0 (.nil)) rfl ?_
          refine OKS.r rfl rfl rfl rfl (fun _ => Runs.lss rfl fi1168 f1182) ?_
          refine OKS.e ?_
          refine thenQ_n ?_
          refine CK.seq ?_
          refine CK.condF (decF c1183.out) ?_
          refine CK.exit ?_
          refine thenQ_e ?_
          refine thenQ_e ?_
          refine blockQ_h ?_
          refine thenQ_n ?_
          refine CK.seq ?_
          refine CK.reg (ks := []) (.fl 0 (.fl 1 (.fx 2 (.fl 3 (.fl 4 (.fl 5 (.fl 6 (.fl 7 (.nil)))))) .stop))) rfl ?_
          refine OKS.rm rfl rfl rfl rfl rfl f1178 ?_
          refine OKS.rm rfl rfl rfl rfl rfl f1179 ?_
          have q := hS1177.freezeT (k := 2) (n := y1080.length) rfl (flatMap_len (f := encT_target_Sheet) (sz := 4) (fun _ => rfl) y1080) (by decide)
          obtain ⟨φ1185, le1186, hs1187, hS1188, th1184⟩ := q
          have hS1189 : St ⟨w, [], φ⟩ φ1185 [.blk b48 141 [.slice A630 y627.length c631, .int .i64 y628, .int .u32 y629], .blk b10 141 [.slice A31 x18.bytes.length c32, .int .i64 x18.next, .int .u32 x18.state]] W1166 := hS1188
          have h1190 := h775.le le784
          have h1191 := h1190.le le833
          have h1192 := h1191.le le1176
          have h1193 := h1192.le le1186
          have q := bnd hm1076
          obtain ⟨⟨x1194, x1195⟩, h1196, hm1197⟩ := q
          try dsimp only at hm1197
          refine OKS.callH 0 rfl rfl rfl rfl (Enters.mk rfl rfl Try.call15 (mapcons rfl (mapcons rfl mapnil)) rfl) hS1189 (fun hs => w_target_Few y99 A172 c173 y1080 A1173 c1174 W1166 φ1185 hs h1193 hs1187 h1196) (.inr rfl) ?_
          rintro φ1198 L1199 v1200 W1201 le1202 hS1203 ⟨rfl, rfl⟩
          have hS1204 : St ⟨w, [], φ⟩ φ1198 [.blk b48 141 [.slice A630 y627.length c631, .int .i64 y628, .int .u32 y629], .blk b10 141 [.slice A31 x18.bytes.length c32, .int .i64 x18.next, .int .u32 x18.state]] W1201 := hS1203
          have q := th1184 _ _ _ le1202 hS1204
          obtain ⟨φ1205, le1206, hS1207⟩ := q
          have hS1208 : St ⟨w, [], φ⟩ φ1205 [.row A1173 c1174 31 4 (List.flatMap encT_target_Sheet y1080), .blk b48 141 [.slice A630 y627.length c631, .int .i64 y628, .int .u32 y629], .blk b10 141 [.slice A31 x18.bytes.length c32, .int .i64 x18.next, .int .u32 x18.state]] W1201 := hS1207
          refine OKS.rm rfl rfl rfl rfl rfl rfl ?_
          refine OKS.r rfl rfl rfl rfl (fun _ => Runs.ext rfl rfl (v := .bool x1194) rfl) ?_
          refine OKS.r rfl rfl rfl rfl (fun _ => Runs.ext rfl rfl (v := .int .i64 x1195) rfl) ?_
          refine OKS.ra rfl rfl rfl rfl rfl rfl ?_
          refine OKS.ra rfl rfl rfl rfl rfl rfl ?_
          refine OKS.e ?_
          refine thenQ_n ?_
          refine CK.seq ?_
          refine CK.reg (ks := []) (.fl 0 (.fl 1 (.fl 2 (.fl 3 (.fl 4 (.fl 5 (.fl 6 (.fl 7 (.fx 8 (.fl 9 (.fl 10 (.nil))) .stop))))))))) rfl ?_
          refine OKS.rm rfl rfl rfl rfl rfl rfl ?_
          refine OKS.r rfl rfl rfl rfl (fun _ => Runs.eql rfl rfl rfl) ?_
          refine OKS.rm rfl rfl rfl rfl rfl rfl ?_
          by_cases c1209 : x1195 = 0
          ·have hm1210 := hm1197; rw [if_pos c1209] at hm1210; replace c1209 := Hid.mk c1209
           refine OKS.rm rfl rfl rfl (wantedY rfl rfl (decT c1209.out)) rfl rfl ?_
           refine OKS.rm rfl rfl rfl (wantedY rfl rfl (decT c1209.out)) rfl f1180 ?_
           refine OKS.r rfl rfl rfl (wantedY rfl rfl (decT c1209.out)) (fun _ => Runs.eqB rfl rfl rfl Try.runUnderlying4) ?_
           refine OKS.r rfl rfl rfl rfl (fun _ => Runs.pickT rfl (decT c1209.out) rfl) ?_
           refine OKS.rm rfl rfl rfl rfl rfl rfl ?_
           by_cases c1211 : (x1194 == y1081) = true
           ·have hm1212 := hm1210; rw [if_pos c1211] at hm1212; replace c1211 := Hid.mk c1211
            have q := bnd hm1212
            obtain ⟨x1213, h1214, hm1215⟩ := q
            refine OKS.callH 0 rfl rfl rfl (wantedY rfl rfl (congrArg Value.bool c1211.out)) (Enters.mk rfl rfl Try.call10 mapnil rfl) hS1208 (fun hs => w_klisterlaw03_awake W1201 φ1205 hs h1214) (.inr rfl) ?_
            rintro φ1216 L1217 v1218 W1219 le1220 hS1221 ⟨rfl, rfl⟩
            have hS1222 : St ⟨w, [], φ⟩ φ1216 [.row A1173 c1174 31 4 (List.flatMap encT_target_Sheet y1080), .blk b48 141 [.slice A630 y627.length c631, .int .i64 y628, .int .u32 y629], .blk b10 141 [.slice A31 x18.bytes.length c32, .int .i64 x18.next, .int .u32 x18.state]] W1219 := hS1221
            refine OKS.r rfl rfl rfl rfl (fun _ => Runs.pickT rfl (congrArg Value.bool c1211.out) rfl) ?_
            refine OKS.ra rfl rfl rfl rfl rfl rfl ?_
            refine OKS.e ?_
            refine thenQ_n ?_
            refine CK.ret ?_
            cases hm1215
            exact ⟨rfl, _, (res1 rfl), φ1216, _, (hS1222.pick [] _ (by decide) rfl), rfl, rfl⟩
           ·have hm1223 := hm1210; rw [if_neg c1211] at hm1223; replace c1211 := Hid.mk c1211
            refine OKS.px rfl rfl rfl (wantedN rfl rfl (congrArg Value.bool (Bool.eq_false_iff.2 c1211.out)) rfl) ?_
            refine OKS.r rfl rfl rfl rfl (fun _ => Runs.pickF rfl (congrArg Value.bool (Bool.eq_false_iff.2 c1211.out)) rfl) ?_
            refine OKS.ra rfl rfl rfl rfl rfl rfl ?_
            refine OKS.e ?_
            refine thenQ_n ?_
            refine CK.ret ?_
            cases hm1223
            exact ⟨rfl, _, (res1 rfl), φ1205, _, (hS1208.pick [] _ (by decide) rfl), rfl, rfl⟩
          ·have hm1224 := hm1197; rw [if_neg c1209] at hm1224; replace c1209 := Hid.mk c1209
           refine OKS.p rfl rfl rfl (wantedN rfl rfl (decF c1209.out) rfl) ?_
           refine OKS.p rfl rfl rfl (wantedN rfl rfl (decF c1209.out) rfl) ?_
           refine OKS.p rfl rfl rfl (wantedN rfl rfl (decF c1209.out) rfl) ?_
           refine OKS.r rfl rfl rfl rfl (fun _ => Runs.pickF rfl (decF c1209.out) rfl) ?_
           refine OKS.rm rfl rfl rfl rfl rfl rfl ?_
           refine OKS.px rfl rfl rfl (wantedN rfl rfl rfl rfl) ?_
           refine OKS.r rfl rfl rfl rfl (fun _ => Runs.pickF rfl rfl rfl) ?_
           refine OKS.ra rfl rfl rfl rfl rfl rfl ?_
           refine OKS.e ?_
           refine thenQ_n ?_
           refine CK.ret ?_
           cases hm1224
           exact ⟨rfl, _, (res1 rfl), φ1205, _, (hS1208.pick [] _ (by decide) rfl), rfl, rfl⟩
  ·have hm1225 := hm203; rw [if_neg c219] at hm1225; replace c219 := Hid.mk c219
   refine CK.condT (decT c219.out) ?_
   refine CK.seq ?_
   refine CK.reg (ks := []) (.fl 0 (.nil)) rfl ?_
   refine OKS.ra rfl rfl rfl rfl rfl rfl ?_
   refine OKS.e ?_
   refine thenQ_n ?_
   refine CK.ret ?_
   refine thenQ_r ?_
   cases hm1225
   exact ⟨rfl, _, (res1 rfl), φ215, _, (hS218.pick [] _ (by decide) rfl), rfl, rfl⟩
end Go.Proofs.Ytaoaelhmiggepaa
