/- Walks, printed by a program: each function does what its model says. -/
import Derived.Test.YtfdnbaahdjlapaaGreatEnc
import Derived.Test.YtfdnbaahdjlapaaGreatW0
namespace Go.Proofs.YtfdnbaahdjlapaaGreat
open Go.KL
set_option maxHeartbeats 4000000 in
theorem w_klisterkit_Equal_api_Span (p0 : List T_api_Span) (pA0 : Option Addr) (pc0 : Nat) (p1 : List T_api_Span) (pA1 : Option Addr) (pc1 : Nat) (w : World) (φ : PHeap) (hS : St ⟨w, [], φ⟩ φ [] w) (ha0 : Sl φ 2 pA0 pc0 p0.length (List.flatMap encT_api_Span p0)) (ha1 : Sl φ 2 pA1 pc1 p1.length (List.flatMap encT_api_Span p1)) {r : Bool} (hm : m_klisterkit_Equal_api_Span p0 p1 = some r) : Gv Tryz.prog 20 [.slice pA0 p0.length pc0, .slice pA1 p1.length pc1] w (RetS w [] φ (fun φ_ L_ v => v = .bool r ∧ L_ = [])) := by
 unfold m_klisterkit_Equal_api_Span at hm
 refine Gv.of Tryz.func20 rfl Tryz.ntmps20 Tryz.results20 rfl ?_
 refine CK.seq ?_
 refine CK.reg (ks := []) (.fl 0 (.nil)) rfl ?_
 refine OKS.ra rfl rfl rfl rfl rfl rfl ?_
 refine OKS.e ?_
 refine thenQ_n ?_
 refine CK.seq ?_
 refine CK.seq ?_
 refine CK.reg (ks := []) (.fl 0 (.fl 1 (.fl 2 (.fl 3 (.fl 4 (.nil)))))) rfl ?_
 refine OKS.rm rfl rfl rfl rfl rfl rfl ?_
 refine OKS.r rfl rfl rfl rfl (fun _ => Runs.len rfl rfl Tryz.runUnderlying43) ?_
 refine OKS.rm rfl rfl rfl rfl rfl rfl ?_
 refine OKS.r rfl rfl rfl rfl (fun _ => Runs.len rfl rfl Tryz.runUnderlying43) ?_
 refine OKS.r rfl rfl rfl rfl (fun _ => Runs.neq rfl rfl rfl) ?_
 refine OKS.e ?_
 refine thenQ_n ?_
 by_cases c1 : (↑p0.length : Int) = (↑p1.length : Int)
 ·have hm2 := hm; rw [if_pos c1] at hm2; replace c1 := Hid.mk c1
  refine CK.condF (decF (fun h => h c1.out)) ?_
  refine CK.skip ?_
  refine thenQ_n ?_
  refine CK.seq ?_
  refine CK.seq ?_
  refine CK.reg (ks := []) (.fl 0 (.fl 1 (.fl 2 (.nil)))) rfl ?_
  refine OKS.rm rfl rfl rfl rfl rfl rfl ?_
  refine OKS.r rfl rfl rfl rfl (fun _ => Runs.len rfl rfl Tryz.runUnderlying43) ?_
  refine OKS.rm rfl rfl rfl rfl rfl rfl ?_
  refine OKS.e ?_
  refine thenQ_n ?_
  refine CK.block ?_
  have q := jn_some hm2
  obtain ⟨r5, hX6⟩ := q
  have q := forR_le hX6
  obtain ⟨hle7, hf8⟩ := q
  replace hle7 := Hid.mk hle7
  refine CK.forN (fun k4 _ σ_ w_ => ∃ (φ_ : PHeap), σ_ 13 = .int .i64 (↑k4 : Int) ∧ σ_ 0 = .slice pA0 p0.length pc0 ∧ σ_ 1 = .slice pA1 p1.length pc1 ∧ σ_ 12 = .int .i64 (↑p0.length : Int) ∧ PHeap.Le φ φ_ ∧ St ⟨w, [], φ⟩ φ_ [] w_) hf8 ?_ ?_ ?_
  ·exact ⟨φ, rfl, rfl, rfl, rfl, (PHeap.Le.refl _), hS⟩
  ·rintro k4 ⟨⟩ xx11 σ9 W10 hk14 ⟨φ16, fi15, f19, f20, f21, le17, hS18⟩ hx12 hb13
   try dsimp only at hx12
   have c22 : Hid ((↑k4 : Int) < (↑p0.length : Int)) := Hid.mk (lp_lt0 hk14)
   replace hk14 := Hid.mk hk14
   have hi23 : Hid (w64 ((↑k4 : Int) + 1) = (↑(k4 + 1) : Int)) := Hid.mk (by have h1 := hle7.out; have h2 := c22.out; rw [w64_in] <;> omega)
   refine CK.seq ?_
   refine CK.reg (ks := []) (.fl 0 (.nil)) rfl ?_
   refine OKS.r rfl rfl rfl rfl (fun _ => Runs.lss rfl fi15 f21) ?_
   refine OKS.e ?_
   refine thenQ_n ?_
   refine CK.seq ?_
   refine CK.condT (decT c22.out) ?_
   refine CK.skip ?_
   refine thenQ_n ?_
   refine CK.seq ?_
   refine CK.block ?_
   refine CK.seq ?_
   refine CK.reg (ks := []) (.fl 0 (.fl 1 (.nil))) rfl ?_
   refine OKS.rm rfl rfl rfl rfl rfl fi15 ?_
   refine OKS.ra rfl rfl rfl rfl rfl rfl ?_
   refine OKS.e ?_
   refine thenQ_n ?_
   refine CK.seq ?_
   refine CK.anyOrd Tryz.mixed [3, 3, 3, 1, 3, 3, 3, 1, 3] (.fl 0 (.fl 1 (.fl 2 (.fl 3 (.fl 4 (.fl 5 (.fl 6 (.fl 7 (.fl 8 (.nil)))))))))) (by kernel_rfl) ?_
   have hS24 := hS18.drew
   generalize hw_W25 : ({ W10 with drawn := W10.drawn + 1 } : World) = W25 at hS24 ⊢
   refine OKS.rm rfl rfl rfl rfl rfl f19 ?_
   refine OKS.rm rfl rfl rfl rfl rfl rfl ?_
   have q := bnd hx12
   obtain ⟨x26, h27, hm28⟩ := q
   have h29 := ha0.le le17
   have q := h29.el (fun _ => rfl) (idx_get h27)
   obtain ⟨b30, off31, hA32, hC33⟩ := q
   refine OKS.r rfl rfl rfl rfl (fun _ => Runs.iaN rfl rfl hA32 rfl Tryz.runUnderlying43 Tryz.sizeOf46 (idx_lt h27)) ?_
   refine OKS.m rfl rfl rfl rfl (hS24.ldCA (f := 0) hC33 rfl rfl Tryz.isAgg46 Tryz.sizeOf46 (us := [.int .i64 x26.Lo, .int .i64 x26.Hi]) rfl rfl) rfl ?_
   refine OKS.rm rfl rfl rfl rfl rfl f20 ?_
   refine OKS.rm rfl rfl rfl rfl rfl rfl ?_
   have q := bnd hm28
   obtain ⟨x34, h35, hm36⟩ := q
   have h37 := ha1.le le17
   have q := h37.el (fun _ => rfl) (idx_get h35)
   obtain ⟨b38, off39, hA40, hC41⟩ := q
   refine OKS.r rfl rfl rfl rfl (fun _ => Runs.iaN rfl rfl hA40 rfl Tryz.runUnderlying43 Tryz.sizeOf46 (idx_lt h35)) ?_
   refine OKS.m rfl rfl rfl rfl (hS24.ldCA (f := 0) hC41 rfl rfl Tryz.isAgg46 Tryz.sizeOf46 (us := [.int .i64 x34.Lo, .int .i64 x34.Hi]) rfl rfl) rfl ?_
   refine OKS.r rfl rfl rfl rfl (fun _ => Runs.to (Runs.neS (enc := encT_api_Span) (a := x26) (b := x34) rfl rfl rfl eqT46 eqG46) (congrArg Value.bool (decide_not).symm)) ?_
   refine OKS.e ?_
   refine thenQ_n ?_
   by_cases c42 : x26 = x34
   ·have hm43 := hm36; rw [if_pos c42] at hm43; replace c42 := Hid.mk c42
    refine CK.condF (decF (fun h => h c42.out)) ?_
    refine CK.skip ?_
    refine blockQ_n ?_
    refine thenQ_n ?_
    refine CK.reg (ks := []) (.fl 0 (.fl 1 (.nil))) rfl ?_
    refine OKS.r rfl rfl rfl rfl (fun _ => Runs.to (Runs.addw rfl fi15 rfl) (congrArg (Value.int .i64) hi23.out)) ?_
    refine OKS.rm rfl rfl rfl rfl rfl rfl ?_
    refine OKS.e ?_
    obtain rfl := Option.some.inj hm43
    exact thenQ_n ⟨rfl, _, rfl, ⟨φ16, rfl, f19, f20, f21, le17, hS24⟩⟩
   ·have hm44 := hm36; rw [if_neg c42] at hm44; replace c42 := Hid.mk c42
    refine CK.condT (decT c42.out) ?_
    refine CK.seq ?_
    refine CK.reg (ks := []) (.fl 0 (.nil)) rfl ?_
    refine OKS.ra rfl rfl rfl rfl rfl rfl ?_
    refine OKS.e ?_
    refine thenQ_n ?_
    refine CK.ret ?_
    refine blockQ_r ?_
    refine thenQ_r ?_
    have q := esc_spec hm44
    obtain ⟨v45, hm46, e47⟩ := q
    obtain rfl := jn_inr hm2 hX6 (hb13 v45 e47)
    refine thenQ_r ?_
    refine blockQ_r ?_
    refine thenQ_r ?_
    cases hm46
    exact ⟨rfl, _, (res1 rfl), φ16, _, hS24, rfl, rfl⟩
  ·rintro ⟨⟩ σ48 W49 ⟨φ52, fi51, f55, f56, f57, le53, hS54⟩ hb50
   have hm58 := jn_inl hm2 hX6 hb50
   try dsimp only at hm58
   have c59 : Hid (¬ ((↑(((↑p0.length : Int) : Int) - 0).toNat : Int) < (↑p0.length : Int))) := Hid.mk (lp_end0)
   refine CK.seq ?_
   refine CK.reg (ks := []) (.fl 0 (.nil)) rfl ?_
   refine OKS.r rfl rfl rfl rfl (fun _ => Runs.lss rfl fi51 f57) ?_
   refine OKS.e ?_
   refine thenQ_n ?_
   refine CK.seq ?_
   refine CK.condF (decF c59.out) ?_
   refine CK.exit ?_
   refine thenQ_e ?_
   refine thenQ_e ?_
   refine blockQ_h ?_
   refine thenQ_n ?_
   refine CK.seq ?_
   refine CK.reg (ks := []) (.fl 0 (.nil)) rfl ?_
   refine OKS.ra rfl rfl rfl rfl rfl rfl ?_
   refine OKS.e ?_
   refine thenQ_n ?_
   refine CK.ret ?_
   cases hm58
   exact ⟨rfl, _, (res1 rfl), φ52, _, hS54, rfl, rfl⟩
 ·have hm60 := hm; rw [if_neg c1] at hm60; replace c1 := Hid.mk c1
  refine CK.condT (decT c1.out) ?_
  refine CK.seq ?_
  refine CK.reg (ks := []) (.fl 0 (.nil)) rfl ?_
  refine OKS.ra rfl rfl rfl rfl rfl rfl ?_
  refine OKS.e ?_
  refine thenQ_n ?_
  refine CK.ret ?_
  refine thenQ_r ?_
  cases hm60
  exact ⟨rfl, _, (res1 rfl), φ, _, hS, rfl, rfl⟩

set_option maxHeartbeats 4000000 in
theorem w_klisterlaw08_RelayChances (p0 : List T_api_Span) (pA0 : Option Addr) (pc0 : Nat) (w : World) (φ : PHeap) (hS : St ⟨w, [], φ⟩ φ [] w) (ha0 : Sl φ 2 pA0 pc0 p0.length (List.flatMap encT_api_Span p0)) {r : Bool} (hm : m_klisterlaw08_RelayChances p0 = some r) : Gv Tryz.prog 4 [.slice pA0 p0.length pc0] w (RetS w [] φ (fun φ_ L_ v => v = .bool r ∧ L_ = [])) := by
 unfold m_klisterlaw08_RelayChances at hm
 refine Gv.of Tryz.func4 rfl Tryz.ntmps4 Tryz.results4 rfl ?_
 refine CK.seq ?_
 refine CK.reg (ks := []) (.fl 0 (.nil)) rfl ?_
 refine OKS.ra rfl rfl rfl rfl rfl rfl ?_
 refine OKS.e ?_
 refine thenQ_n ?_
 refine CK.seq ?_
 refine CK.seq ?_
 refine CK.reg (ks := []) (.fl 0 (.fl 1 (.fl 2 (.nil)))) rfl ?_
 refine OKS.rm rfl rfl rfl rfl rfl rfl ?_
 refine OKS.r rfl rfl rfl rfl (fun _ => Runs.len rfl rfl Tryz.runUnderlying43) ?_
 refine OKS.r rfl rfl rfl rfl (fun _ => Runs.gtr rfl rfl rfl) ?_
 refine OKS.e ?_
 refine thenQ_n ?_
 by_cases c1 : 44 < (↑p0.length : Int)
 ·have hm2 := hm; rw [if_pos c1] at hm2; replace c1 := Hid.mk c1
  refine CK.condT (decT c1.out) ?_
  refine CK.seq ?_
  refine CK.reg (ks := []) (.fx 0 (.fl 1 (.nil)) .stop) rfl ?_
  have q := bnd hm2
  obtain ⟨x3, h4, hm5⟩ := q
  refine OKS.callH 0 rfl rfl rfl rfl (Enters.mk rfl rfl Tryz.call8 mapnil rfl) hS (fun hs => w_klisterlaw08_awake w φ hs h4) (.inr rfl) ?_
  rintro φ6 L7 v8 W9 le10 hS11 ⟨rfl, rfl⟩
  have hS12 : St ⟨w, [], φ⟩ φ6 [] W9 := hS11
  refine OKS.ra rfl rfl rfl rfl rfl rfl ?_
  refine OKS.e ?_
  refine thenQ_n ?_
  refine CK.ret ?_
  refine thenQ_r ?_
  cases hm5
  exact ⟨rfl, _, (res1 rfl), φ6, _, hS12, rfl, rfl⟩
 ·have hm13 := hm; rw [if_neg c1] at hm13; replace c1 := Hid.mk c1
  refine CK.condF (decF c1.out) ?_
  refine CK.skip ?_
  refine thenQ_n ?_
  refine CK.seq ?_
  refine CK.reg (ks := []) (.fl 0 (.fx 1 (.fl 2 (.nil)) .stop)) rfl ?_
  refine OKS.rm rfl rfl rfl rfl rfl rfl ?_
  have q := bnd hm13
  obtain ⟨x14, h15, hm16⟩ := q
  refine OKS.callH 0 rfl rfl rfl rfl (Enters.mk rfl rfl Tryz.call17 (mapcons rfl mapnil) rfl) hS (fun hs => w_klisterkit_Clone_api_Span p0 pA0 pc0 w φ hs ha0 h15) (.inr rfl) ?_
  rintro φ17 L18 v19 W20 le21 hS22 ⟨A23, c24, rfl, rfl⟩
  have hS26 : St ⟨w, [], φ⟩ φ17 [.row A23 c24 46 2 (List.flatMap encT_api_Span x14)] W20 := hS22
  refine OKS.ra rfl rfl rfl rfl rfl rfl ?_
  refine OKS.e ?_
  refine thenQ_n ?_
  refine CK.seq ?_
  refine CK.reg (ks := []) (.fl 0 (.fx 1 (.fl 2 (.fl 3 (.fl 4 (.fl 5 (.fl 6 (.nil)))))) .stop)) rfl ?_
  refine OKS.rm rfl rfl rfl rfl rfl rfl ?_
  have q := hS26.freezeR (k := 0) (n := x14.length) rfl (flatMap_len (f := encT_api_Span) (sz := 2) (fun _ => rfl) x14) (by decide)
  obtain ⟨φ27, le28, hs29, hS30⟩ := q
  have hS31 : St ⟨w, [], φ⟩ φ27 [] W20 := hS30
  have q := bnd hm16
  obtain ⟨⟨x32, x33⟩, h34, hm35⟩ := q
  try dsimp only at hm35
  refine OKS.callH 0 rfl rfl rfl rfl (Enters.mk rfl rfl Tryz.call18 (mapcons rfl mapnil) rfl) hS31 (fun hs => w_relay_Chances x14 A23 c24 W20 φ27 hs hs29 h34) (.inr rfl) ?_
  rintro φ36 L37 v38 W39 le40 hS41 ⟨A42, c43, rfl, rfl⟩
  have hS45 : St ⟨w, [], φ⟩ φ36 [.row A42 c43 46 2 (List.flatMap encT_api_Span x32)] W39 := hS41
  refine OKS.rm rfl rfl rfl rfl rfl rfl ?_
  refine OKS.r rfl rfl rfl rfl (fun _ => Runs.ext rfl rfl (v := .slice A42 x32.length c43) rfl) ?_
  refine OKS.r rfl rfl rfl rfl (fun _ => Runs.ext rfl rfl (v := .int .i64 x33) rfl) ?_
  refine OKS.ra rfl rfl rfl rfl rfl rfl ?_
  refine OKS.ra rfl rfl rfl rfl rfl rfl ?_
  refine OKS.e ?_
  refine thenQ_n ?_
  refine CK.seq ?_
  refine CK.reg (ks := []) (.fl 0 (.fx 1 (.fl 2 (.fl 3 (.fl 4 (.fl 5 (.fl 6 (.nil)))))) .stop)) rfl ?_
  refine OKS.rm rfl rfl rfl rfl rfl rfl ?_
  have h46 := ha0.le le21
  have h47 := h46.le le28
  have h48 := h47.le le40
  have q := bnd hm35
  obtain ⟨⟨x49, x50⟩, h51, hm52⟩ := q
  try dsimp only at hm52
  refine OKS.callH 0 rfl rfl rfl rfl (Enters.mk rfl rfl Tryz.call19 (mapcons rfl mapnil) rfl) hS45 (fun hs => w_klisterref08_Chances p0 pA0 pc0 W39 φ36 hs h48 h51) (.inr rfl) ?_
  rintro φ53 L54 v55 W56 le57 hS58 ⟨A59, c60, rfl, rfl⟩
  have hS62 : St ⟨w, [], φ⟩ φ53 [.row A59 c60 46 2 (List.flatMap encT_api_Span x49), .row A42 c43 46 2 (List.flatMap encT_api_Span x32)] W56 := hS58
  refine OKS.rm rfl rfl rfl rfl rfl rfl ?_
  refine OKS.r rfl rfl rfl rfl (fun _ => Runs.ext rfl rfl (v := .slice A59 x49.length c60) rfl) ?_
  refine OKS.r rfl rfl rfl rfl (fun _ => Runs.ext rfl rfl (v := .int .i64 x50) rfl) ?_
  refine OKS.ra rfl rfl rfl rfl rfl rfl ?_
  refine OKS.ra rfl rfl rfl rfl rfl rfl ?_
  refine OKS.e ?_
  refine thenQ_n ?_
  refine CK.seq ?_
  refine CK.reg (ks := []) (.fl 0 (.fl 1 (.fl 2 (.fl 3 (.fl 4 (.fl 5 (.fx 6 (.fl 7 (.fl 8 (.fl 9 (.fl 10 (.fx 11 (.fl 12 (.fl 13 (.fx 14 (.fl 15 (.fl 16 (.nil))) .stop))) .stop))))) .stop))))))) rfl ?_
  refine OKS.rm rfl rfl rfl rfl rfl rfl ?_
  refine OKS.rm rfl rfl rfl rfl rfl rfl ?_
  refine OKS.r rfl rfl rfl rfl (fun _ => Runs.eql rfl rfl rfl) ?_
  refine OKS.rm rfl rfl rfl rfl rfl rfl ?_
  by_cases c63 : x33 = x50
  ·have hm64 := hm52; rw [if_pos c63] at hm64; replace c63 := Hid.mk c63
   refine OKS.rm rfl rfl rfl (wantedY rfl rfl (decT c63.out)) rfl rfl ?_
   refine OKS.rm rfl rfl rfl (wantedY rfl rfl (decT c63.out)) rfl rfl ?_
   have q := hS62.freezeR (k := 1) (n := x32.length) rfl (flatMap_len (f := encT_api_Span) (sz := 2) (fun _ => rfl) x32) (by decide)
   obtain ⟨φ65, le66, hs67, hS68⟩ := q
   have hS69 : St ⟨w, [], φ⟩ φ65 [.row A59 c60 46 2 (List.flatMap encT_api_Span x49)] W56 := hS68
   have q := hS69.freezeR (k := 0) (n := x49.length) rfl (flatMap_len (f := encT_api_Span) (sz := 2) (fun _ => rfl) x49) (by decide)
   obtain ⟨φ70, le71, hs72, hS73⟩ := q
   have hS74 : St ⟨w, [], φ⟩ φ70 [] W56 := hS73
   have h75 := hs67.le le71
   have q := bnd hm64
   obtain ⟨x76, h77, hm78⟩ := q
   refine OKS.callH 0 rfl rfl rfl (wantedY rfl rfl (decT c63.out)) (Enters.mk rfl rfl Tryz.call20 (mapcons rfl (mapcons rfl mapnil)) rfl) hS74 (fun hs => w_klisterkit_Equal_api_Span x32 A42 c43 x49 A59 c60 W56 φ70 hs h75 hs72 h77) (.inr rfl) ?_
   rintro φ79 L80 v81 W82 le83 hS84 ⟨rfl, rfl⟩
   have hS85 : St ⟨w, [], φ⟩ φ79 [] W82 := hS84
   refine OKS.r rfl rfl rfl rfl (fun _ => Runs.pickT rfl (decT c63.out) rfl) ?_
   refine OKS.rm rfl rfl rfl rfl rfl rfl ?_
   by_cases c86 : x76 = true
   ·have hm87 := hm78; rw [if_pos c86] at hm87; replace c86 := Hid.mk c86
    refine OKS.rm rfl rfl rfl (wantedY rfl rfl (congrArg Value.bool c86.out)) rfl rfl ?_
    refine OKS.rm rfl rfl rfl (wantedY rfl rfl (congrArg Value.bool c86.out)) rfl rfl ?_
    have h88 := hs29.le le40
    have h89 := h88.le le57
    have h90 := h89.le le66
    have h91 := h90.le le71
    have h92 := h91.le le83
    have h93 := h48.le le57
    have h94 := h93.le le66
    have h95 := h94.le le71
    have h96 := h95.le le83
    have q := bnd hm87
    obtain ⟨x97, h98, hm99⟩ := q
    refine OKS.callH 0 rfl rfl rfl (wantedY rfl rfl (congrArg Value.bool c86.out)) (Enters.mk rfl rfl Tryz.call20 (mapcons rfl (mapcons rfl mapnil)) rfl) hS85 (fun hs => w_klisterkit_Equal_api_Span x14 A23 c24 p0 pA0 pc0 W82 φ79 hs h92 h96 h98) (.inr rfl) ?_
    rintro φ100 L101 v102 W103 le104 hS105 ⟨rfl, rfl⟩
    have hS106 : St ⟨w, [], φ⟩ φ100 [] W103 := hS105
    refine OKS.r rfl rfl rfl rfl (fun _ => Runs.pickT rfl (congrArg Value.bool c86.out) rfl) ?_
    refine OKS.rm rfl rfl rfl rfl rfl rfl ?_
    by_cases c107 : x97 = true
    ·have hm108 := hm99; rw [if_pos c107] at hm108; replace c107 := Hid.mk c107
     have q := bnd hm108
     obtain ⟨x109, h110, hm111⟩ := q
     refine OKS.callH 0 rfl rfl rfl (wantedY rfl rfl (congrArg Value.bool c107.out)) (Enters.mk rfl rfl Tryz.call8 mapnil rfl) hS106 (fun hs => w_klisterlaw08_awake W103 φ100 hs h110) (.inr rfl) ?_
     rintro φ112 L113 v114 W115 le116 hS117 ⟨rfl, rfl⟩
     have hS118 : St ⟨w, [], φ⟩ φ112 [] W115 := hS117
     refine OKS.r rfl rfl rfl rfl (fun _ => Runs.pickT rfl (congrArg Value.bool c107.out) rfl) ?_
     refine OKS.ra rfl rfl rfl rfl rfl rfl ?_
     refine OKS.e ?_
     refine thenQ_n ?_
     refine CK.ret ?_
     cases hm111
     exact ⟨rfl, _, (res1 rfl), φ112, _, hS118, rfl, rfl⟩
    ·have hm119 := hm99; rw [if_neg c107] at hm119; replace c107 := Hid.mk c107
     refine OKS.px rfl rfl rfl (wantedN rfl rfl (congrArg Value.bool (Bool.eq_false_iff.2 c107.out)) rfl) ?_
     refine OKS.r rfl rfl rfl rfl (fun _ => Runs.pickF rfl (congrArg Value.bool (Bool.eq_false_iff.2 c107.out)) rfl) ?_
     refine OKS.ra rfl rfl rfl rfl rfl rfl ?_
     refine OKS.e ?_
     refine thenQ_n ?_
     refine CK.ret ?_
     cases hm119
     exact ⟨rfl, _, (res1 rfl), φ100, _, hS106, rfl, rfl⟩
   ·have hm120 := hm78; rw [if_neg c86] at hm120; replace c86 := Hid.mk c86
    refine OKS.p rfl rfl rfl (wantedN rfl rfl (congrArg Value.bool (Bool.eq_false_iff.2 c86.out)) rfl) ?_
    refine OKS.p rfl rfl rfl (wantedN rfl rfl (congrArg Value.bool (Bool.eq_false_iff.2 c86.out)) rfl) ?_
    refine OKS.px rfl rfl rfl (wantedN rfl rfl (congrArg Value.bool (Bool.eq_false_iff.2 c86.out)) rfl) ?_
    refine OKS.r rfl rfl rfl rfl (fun _ => Runs.pickF rfl (congrArg Value.bool (Bool.eq_false_iff.2 c86.out)) rfl) ?_
    refine OKS.rm rfl rfl rfl rfl rfl rfl ?_
    refine OKS.px rfl rfl rfl (wantedN rfl rfl rfl rfl) ?_
    refine OKS.r rfl rfl rfl rfl (fun _ => Runs.pickF rfl rfl rfl) ?_
    refine OKS.ra rfl rfl rfl rfl rfl rfl ?_
    refine OKS.e ?_
    refine thenQ_n ?_
    refine CK.ret ?_
    cases hm120
    exact ⟨rfl, _, (res1 rfl), φ79, _, hS85, rfl, rfl⟩
  ·have hm121 := hm52; rw [if_neg c63] at hm121; replace c63 := Hid.mk c63
   refine OKS.p rfl rfl rfl (wantedN rfl rfl (decF c63.out) rfl) ?_
   refine OKS.p rfl rfl rfl (wantedN rfl rfl (decF c63.out) rfl) ?_
   refine OKS.px rfl rfl rfl (wantedN rfl rfl (decF c63.out) rfl) ?_
   refine OKS.r rfl rfl rfl rfl (fun _ => Runs.pickF rfl (decF c63.out) rfl) ?_
   refine OKS.rm rfl rfl rfl rfl rfl rfl ?_
   refine OKS.p rfl rfl rfl (wantedN rfl rfl rfl rfl) ?_
   refine OKS.p rfl rfl rfl (wantedN rfl rfl rfl rfl) ?_
   refine OKS.px rfl rfl rfl (wantedN rfl rfl rfl rfl) ?_
   refine OKS.r rfl rfl rfl rfl (fun _ => Runs.pickF rfl rfl rfl) ?_
   refine OKS.rm rfl rfl rfl rfl rfl rfl ?_
   refine OKS.px rfl rfl rfl (wantedN rfl rfl rfl rfl) ?_
   refine OKS.r rfl rfl rfl rfl (fun _ => Runs.pickF rfl rfl rfl) ?_
   refine OKS.ra rfl rfl rfl rfl rfl rfl ?_
   refine OKS.e ?_
   refine thenQ_n ?_
   refine CK.ret ?_
   cases hm121
   exact ⟨rfl, _, (res1 rfl), φ53, _, (hS62.pick [] _ (by decide) rfl), rfl, rfl⟩
end Go.Proofs.YtfdnbaahdjlapaaGreat
