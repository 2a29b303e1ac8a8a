/- Walks, printed by a program: each function does what its model says. -/
import Derived.Test.YtfdnbaahdjlapaaGreatEnc
namespace Go.Proofs.YtfdnbaahdjlapaaGreat
open Go.KL
theorem w_klisterlaw08_awake (w : World) (φ : PHeap) (hS : St ⟨w, [], φ⟩ φ [] w) {r : Bool} (hm : m_klisterlaw08_awake = some r) : Gv Tryz.prog 8 [] w (RetS w [] φ (fun φ_ L_ v => v = .bool r ∧ L_ = [])) := by
  cases hm
  refine (xr8 w).mono ?_
  rintro v w' ⟨rfl, k⟩
  exact ⟨φ, [], hS.grow k, rfl, rfl⟩

set_option maxHeartbeats 4000000 in
theorem w_klisterkit_Clone_api_Span (p0 : List T_api_Span) (pA0 : Option Addr) (pc0 : Nat) (w : World) (φ : PHeap) (hS : St ⟨w, [], φ⟩ φ [] w) (ha0 : Sl φ 2 pA0 pc0 p0.length (List.flatMap encT_api_Span p0)) {r : (List T_api_Span)} (hm : m_klisterkit_Clone_api_Span p0 = some r) : Gv Tryz.prog 17 [.slice pA0 p0.length pc0] w (RetS w [] φ (fun φ_ L_ v => ∃ (A0 : Option Addr) (c0 : Nat), v = .slice A0 r.length c0 ∧ L_ = [.row A0 c0 46 2 (List.flatMap encT_api_Span r)])) := by
 unfold m_klisterkit_Clone_api_Span at hm
 refine Gv.of Tryz.func17 rfl Tryz.ntmps17 Tryz.results17 rfl ?_
 refine CK.seq ?_
 refine CK.reg (ks := []) (.fl 0 (.nil)) rfl ?_
 refine OKS.ra rfl rfl rfl rfl rfl rfl ?_
 refine OKS.e ?_
 refine thenQ_n ?_
 refine CK.seq ?_
 refine CK.reg (ks := []) (.fl 0 (.fx 1 (.fl 2 (.nil)) .stop)) rfl ?_
 refine OKS.rm rfl rfl rfl rfl rfl rfl ?_
 have hS1 := hS.nilrow 46 2
 have hS3 : St ⟨w, [], φ⟩ φ [.row none 0 46 2 (List.flatMap encT_api_Span ([] : List T_api_Span))] w := hS1
 have q := bnd hm
 obtain ⟨x4, h5, hm6⟩ := q
 refine OKS.append (j := 0) (enc := encT_api_Span) (xs := ([] : List T_api_Span)) (ys := p0) (zs := x4) rfl rfl rfl rfl rfl Tryz.underlying43 info46 rfl rfl rfl rfl rfl rfl hS3 rfl rfl rfl (hS3.srcS ha0) (fun _ => rfl) (fun _ => rfl) h5 rfl ?_
 intro A7 c8 W9 hS10
 have hS11 : St ⟨w, [], φ⟩ φ [.row A7 c8 46 2 (List.flatMap encT_api_Span x4)] W9 := hS10
 refine OKS.ra rfl rfl rfl rfl rfl rfl ?_
 refine OKS.e ?_
 refine thenQ_n ?_
 refine CK.ret ?_
 cases hm6
 exact ⟨rfl, _, (res1 rfl), φ, _, hS11, A7, c8, rfl, rfl⟩

set_option maxHeartbeats 4000000 in
theorem w_relay_each_api_Span_1 (p0 : T_api_Span) (p1 : (T_api_Span → Option Bool)) (pb1 : Nat) (pv1 : Value) (w : World) (φ : PHeap) (hS : St ⟨w, [], φ⟩ φ [] w) (ha0 : Cl φ pb1 0 [pv1]) (ha1 : FnOK Tryz.prog φ pv1 ar123 rr123 p1) {r : Bool} (hm : m_relay_each_api_Span_1 p0 p1 = some r) : Gv Tryz.prog 113 [.agg #[.int .i64 p0.Lo, .int .i64 p0.Hi], .pointer (some ⟨pb1, 0, none⟩)] w (RetS w [] φ (fun φ_ L_ v => v = .bool r ∧ L_ = [])) := by
 unfold m_relay_each_api_Span_1 at hm
 refine Gv.of Tryz.func113 rfl Tryz.ntmps113 Tryz.results113 rfl ?_
 refine CK.seq ?_
 refine CK.reg (ks := []) (.fx 0 (.fl 1 (.nil)) .stop) rfl ?_
 refine OKS.box (cs := [.int .i64 p0.Lo, .int .i64 p0.Hi]) rfl rfl rfl rfl rfl rfl (by rfl) hS ?_
 intro W1 b2 hS3
 refine OKS.ra rfl rfl rfl rfl rfl rfl ?_
 refine OKS.e ?_
 refine thenQ_n ?_
 refine CK.seq ?_
 refine CK.reg (ks := []) (.fl 0 (.fl 1 (.fx 2 (.fl 3 (.fl 4 (.nil))) .stop))) rfl ?_
 refine OKS.m rfl rfl rfl rfl (hS3.ldC (f := 0) ha0 (v := pv1) rfl rfl Tryz.isAgg123 rfl) rfl ?_
 refine OKS.m rfl rfl rfl rfl (hS3.ldBA (j := 0) rfl rfl rfl Tryz.isAgg46 Tryz.sizeOf46 (vs := [.int .i64 p0.Lo, .int .i64 p0.Hi]) rfl rfl) rfl ?_
 have q := bnd hm
 obtain ⟨x5, h6, hm7⟩ := q
 refine OKS.callV (a := p0) rfl rfl rfl rfl rfl rfl (mapcons rfl mapnil) hS3 ha1 rfl h6 ?_
 rintro φ8 L9 v10 W11 le12 hS13 ⟨rfl, rfl⟩
 have hS14 : St ⟨w, [], φ⟩ φ8 [.blk b2 46 [.int .i64 p0.Lo, .int .i64 p0.Hi]] W11 := hS13
 refine OKS.r rfl rfl rfl rfl (fun _ => Runs.notT rfl rfl) ?_
 refine OKS.ra rfl rfl rfl rfl rfl rfl ?_
 refine OKS.e ?_
 refine thenQ_n ?_
 refine CK.ret ?_
 cases hm7
 exact ⟨rfl, _, (res1 rfl), φ8, _, (hS14.pick [] _ (by decide) rfl), rfl, rfl⟩

set_option maxHeartbeats 4000000 in
theorem w_slices_IndexFunc_api_Span_api_Span (p0 : List T_api_Span) (pA0 : Option Addr) (pc0 : Nat) (p1 : (T_api_Span → Option Bool)) (pv1 : Value) (w : World) (φ : PHeap) (hS : St ⟨w, [], φ⟩ φ [] w) (ha0 : Sl φ 2 pA0 pc0 p0.length (List.flatMap encT_api_Span p0)) (ha1 : FnOK Tryz.prog φ pv1 ar123 rr123 p1) {r : Int} (hm : m_slices_IndexFunc_api_Span_api_Span p0 p1 = some r) : Gv Tryz.prog 153 [.slice pA0 p0.length pc0, pv1] w (RetS w [] φ (fun φ_ L_ v => v = .int .i64 r ∧ L_ = [])) := by
 unfold m_slices_IndexFunc_api_Span_api_Span at hm
 refine Gv.of Tryz.func153 rfl Tryz.ntmps153 Tryz.results153 rfl ?_
 refine CK.seq ?_
 refine CK.reg (ks := []) (.fl 0 (.nil)) rfl ?_
 refine OKS.ra rfl rfl rfl rfl rfl rfl ?_
 refine OKS.e ?_
 refine thenQ_n ?_
 refine CK.seq ?_
 refine CK.seq ?_
 refine CK.reg (ks := []) (.fl 0 (.fl 1 (.fl 2 (.nil)))) rfl ?_
 refine OKS.rm rfl rfl rfl rfl rfl rfl ?_
 refine OKS.r rfl rfl rfl rfl (fun _ => Runs.len rfl rfl Tryz.runUnderlying43) ?_
 refine OKS.rm rfl rfl rfl rfl rfl rfl ?_
 refine OKS.e ?_
 refine thenQ_n ?_
 refine CK.block ?_
 have q := jn_some hm
 obtain ⟨r3, hX4⟩ := q
 have q := forR_le hX4
 obtain ⟨hle5, hf6⟩ := q
 replace hle5 := Hid.mk hle5
 refine CK.forN (fun k2 _ σ_ w_ => ∃ (φ_ : PHeap), σ_ 8 = .int .i64 (↑k2 : Int) ∧ σ_ 0 = .slice pA0 p0.length pc0 ∧ σ_ 1 = pv1 ∧ σ_ 7 = .int .i64 (↑p0.length : Int) ∧ PHeap.Le φ φ_ ∧ St ⟨w, [], φ⟩ φ_ [] w_) hf6 ?_ ?_ ?_
 ·exact ⟨φ, rfl, rfl, rfl, rfl, (PHeap.Le.refl _), hS⟩
 ·rintro k2 ⟨⟩ xx9 σ7 W8 hk12 ⟨φ14, fi13, f17, f18, f19, le15, hS16⟩ hx10 hb11
  try dsimp only at hx10
  have c20 : Hid ((↑k2 : Int) < (↑p0.length : Int)) := Hid.mk (lp_lt0 hk12)
  replace hk12 := Hid.mk hk12
  have hi21 : Hid (w64 ((↑k2 : Int) + 1) = (↑(k2 + 1) : Int)) := Hid.mk (by have h1 := hle5.out; have h2 := c20.out; rw [w64_in] <;> omega)
  refine CK.seq ?_
  refine CK.reg (ks := []) (.fl 0 (.nil)) rfl ?_
  refine OKS.r rfl rfl rfl rfl (fun _ => Runs.lss rfl fi13 f19) ?_
  refine OKS.e ?_
  refine thenQ_n ?_
  refine CK.seq ?_
  refine CK.condT (decT c20.out) ?_
  refine CK.skip ?_
  refine thenQ_n ?_
  refine CK.seq ?_
  refine CK.block ?_
  refine CK.seq ?_
  refine CK.reg (ks := []) (.fl 0 (.fl 1 (.nil))) rfl ?_
  refine OKS.rm rfl rfl rfl rfl rfl fi13 ?_
  refine OKS.ra rfl rfl rfl rfl rfl rfl ?_
  refine OKS.e ?_
  refine thenQ_n ?_
  refine CK.seq ?_
  refine CK.reg (ks := []) (.fl 0 (.fl 1 (.fl 2 (.fl 3 (.fl 4 (.fx 5 (.nil) .stop)))))) rfl ?_
  refine OKS.rm rfl rfl rfl rfl rfl f18 ?_
  refine OKS.rm rfl rfl rfl rfl rfl f17 ?_
  refine OKS.rm rfl rfl rfl rfl rfl rfl ?_
  have q := bnd hx10
  obtain ⟨x22, h23, hm24⟩ := q
  have h25 := ha0.le le15
  have q := h25.el (fun _ => rfl) (idx_get h23)
  obtain ⟨b26, off27, hA28, hC29⟩ := q
  refine OKS.r rfl rfl rfl rfl (fun _ => Runs.iaN rfl rfl hA28 rfl Tryz.runUnderlying43 Tryz.sizeOf46 (idx_lt h23)) ?_
  refine OKS.m rfl rfl rfl rfl (hS16.ldCA (f := 0) hC29 rfl rfl Tryz.isAgg46 Tryz.sizeOf46 (us := [.int .i64 x22.Lo, .int .i64 x22.Hi]) rfl rfl) rfl ?_
  have q := bnd hm24
  obtain ⟨x30, h31, hm32⟩ := q
  have h39 := ha1.le le15
  refine OKS.callV (a := x22) rfl rfl rfl rfl rfl rfl (mapcons rfl mapnil) hS16 h39 rfl h31 ?_
  rintro φ33 L34 v35 W36 le37 hS38 ⟨rfl, rfl⟩
  have hS40 : St ⟨w, [], φ⟩ φ33 [] W36 := hS38
  refine OKS.e ?_
  refine thenQ_n ?_
  by_cases c41 : x30 = true
  ·have hm42 := hm32; rw [if_pos c41] at hm42; replace c41 := Hid.mk c41
   refine CK.condT (congrArg Value.bool c41.out) ?_
   refine CK.seq ?_
   refine CK.reg (ks := []) (.fl 0 (.fl 1 (.nil))) rfl ?_
   refine OKS.rm rfl rfl rfl rfl rfl rfl ?_
   refine OKS.ra rfl rfl rfl rfl rfl rfl ?_
   refine OKS.e ?_
   refine thenQ_n ?_
   refine CK.ret ?_
   refine blockQ_r ?_
   refine thenQ_r ?_
   have q := esc_spec hm42
   obtain ⟨v43, hm44, e45⟩ := q
   obtain rfl := jn_inr hm hX4 (hb11 v43 e45)
   refine thenQ_r ?_
   refine blockQ_r ?_
   refine thenQ_r ?_
   cases hm44
   exact ⟨rfl, _, (res1 rfl), φ33, _, hS40, rfl, rfl⟩
  ·have hm46 := hm32; rw [if_neg c41] at hm46; replace c41 := Hid.mk c41
   refine CK.condF (congrArg Value.bool (Bool.eq_false_iff.2 c41.out)) ?_
   refine CK.skip ?_
   refine blockQ_n ?_
   refine thenQ_n ?_
   refine CK.reg (ks := []) (.fl 0 (.fl 1 (.nil))) rfl ?_
   refine OKS.r rfl rfl rfl rfl (fun _ => Runs.to (Runs.addw rfl fi13 rfl) (congrArg (Value.int .i64) hi21.out)) ?_
   refine OKS.rm rfl rfl rfl rfl rfl rfl ?_
   refine OKS.e ?_
   obtain rfl := Option.some.inj hm46
   exact thenQ_n ⟨rfl, _, rfl, ⟨φ33, rfl, f17, f18, f19, (le15.trans le37), hS40⟩⟩
 ·rintro ⟨⟩ σ47 W48 ⟨φ51, fi50, f54, f55, f56, le52, hS53⟩ hb49
  have hm57 := jn_inl hm hX4 hb49
  try dsimp only at hm57
  have c58 : Hid (¬ ((↑(((↑p0.length : Int) : Int) - 0).toNat : Int) < (↑p0.length : Int))) := Hid.mk (lp_end0)
  refine CK.seq ?_
  refine CK.reg (ks := []) (.fl 0 (.nil)) rfl ?_
  refine OKS.r rfl rfl rfl rfl (fun _ => Runs.lss rfl fi50 f56) ?_
  refine OKS.e ?_
  refine thenQ_n ?_
  refine CK.seq ?_
  refine CK.condF (decF c58.out) ?_
  refine CK.exit ?_
  refine thenQ_e ?_
  refine thenQ_e ?_
  refine blockQ_h ?_
  refine thenQ_n ?_
  refine CK.seq ?_
  refine CK.reg (ks := []) (.fl 0 (.nil)) rfl ?_
  refine OKS.ra rfl rfl rfl rfl rfl rfl ?_
  refine OKS.e ?_
  refine thenQ_n ?_
  refine CK.ret ?_
  cases hm57
  exact ⟨rfl, _, (res1 rfl), φ51, _, hS53, rfl, rfl⟩

set_option maxHeartbeats 4000000 in
theorem w_slices_ContainsFunc_api_Span_api_Span (p0 : List T_api_Span) (pA0 : Option Addr) (pc0 : Nat) (p1 : (T_api_Span → Option Bool)) (pv1 : Value) (w : World) (φ : PHeap) (hS : St ⟨w, [], φ⟩ φ [] w) (ha0 : Sl φ 2 pA0 pc0 p0.length (List.flatMap encT_api_Span p0)) (ha1 : FnOK Tryz.prog φ pv1 ar123 rr123 p1) {r : Bool} (hm : m_slices_ContainsFunc_api_Span_api_Span p0 p1 = some r) : Gv Tryz.prog 112 [.slice pA0 p0.length pc0, pv1] w (RetS w [] φ (fun φ_ L_ v => v = .bool r ∧ L_ = [])) := by
 unfold m_slices_ContainsFunc_api_Span_api_Span at hm
 refine Gv.of Tryz.func112 rfl Tryz.ntmps112 Tryz.results112 rfl ?_
 refine CK.seq ?_
 refine CK.reg (ks := []) (.fl 0 (.nil)) rfl ?_
 refine OKS.ra rfl rfl rfl rfl rfl rfl ?_
 refine OKS.e ?_
 refine thenQ_n ?_
 refine CK.seq ?_
 refine CK.reg (ks := []) (.fl 0 (.fl 1 (.fx 2 (.fl 3 (.fl 4 (.nil))) .stop))) rfl ?_
 refine OKS.rm rfl rfl rfl rfl rfl rfl ?_
 refine OKS.rm rfl rfl rfl rfl rfl rfl ?_
 have q := bnd hm
 obtain ⟨x1, h2, hm3⟩ := q
 refine OKS.callH 0 rfl rfl rfl rfl (Enters.mk rfl rfl Tryz.call153 (mapcons rfl (mapcons rfl mapnil)) rfl) hS (fun hs => w_slices_IndexFunc_api_Span_api_Span p0 pA0 pc0 p1 pv1 w φ hs ha0 ha1 h2) (.inr rfl) ?_
 rintro φ4 L5 v6 W7 le8 hS9 ⟨rfl, rfl⟩
 have hS10 : St ⟨w, [], φ⟩ φ4 [] W7 := hS9
 refine OKS.r rfl rfl rfl rfl (fun _ => Runs.geq rfl rfl rfl) ?_
 refine OKS.ra rfl rfl rfl rfl rfl rfl ?_
 refine OKS.e ?_
 refine thenQ_n ?_
 refine CK.ret ?_
 cases hm3
 exact ⟨rfl, _, (res1 rfl), φ4, _, hS10, rfl, rfl⟩

set_option maxHeartbeats 4000000 in
theorem w_relay_each_api_Span (p0 : List T_api_Span) (pA0 : Option Addr) (pc0 : Nat) (p1 : (T_api_Span → Option Bool)) (pv1 : Value) (w : World) (φ : PHeap) (hS : St ⟨w, [], φ⟩ φ [] w) (ha0 : Sl φ 2 pA0 pc0 p0.length (List.flatMap encT_api_Span p0)) (ha1 : FnOK Tryz.prog φ pv1 ar123 rr123 p1) {r : Bool} (hm : m_relay_each_api_Span p0 p1 = some r) : Gv Tryz.prog 61 [.slice pA0 p0.length pc0, pv1] w (RetS w [] φ (fun φ_ L_ v => v = .bool r ∧ L_ = [])) := by
 unfold m_relay_each_api_Span at hm
 refine Gv.of Tryz.func61 rfl Tryz.ntmps61 Tryz.results61 rfl ?_
 refine CK.seq ?_
 refine CK.reg (ks := []) (.fx 0 (.fl 1 (.nil)) .stop) rfl ?_
 refine OKS.box (cs := [pv1]) rfl rfl rfl rfl rfl rfl (FnOK.cells ha1) hS ?_
 intro W1 b2 hS3
 have q := hS3.freeze (k := 0) rfl
 obtain ⟨φ5, le6, hC7, hS8⟩ := q
 replace hC7 := Cl.of hC7
 have hS9 : St ⟨w, [], φ⟩ φ5 [] W1 := hS8
 replace hC7 : Cl φ5 b2 0 [pv1] := hC7
 refine OKS.ra rfl rfl rfl rfl rfl rfl ?_
 refine OKS.e ?_
 refine thenQ_n ?_
 refine CK.seq ?_
 refine CK.reg (ks := []) (.fl 0 (.fl 1 (.fx 2 (.fl 3 (.fl 4 (.nil))) .stop))) rfl ?_
 refine OKS.rm rfl rfl rfl rfl rfl rfl ?_
 refine OKS.r rfl rfl rfl rfl (fun _ => Runs.mkf rfl mapnil (mapcons rfl mapnil)) ?_
 have h10 := ha0.le le6
 have h11 := ha1.le le6
 have hF12 : FnOK Tryz.prog φ5 (.func (.func 113) #[] #[.pointer (some ⟨b2, 0, none⟩)]) ar123 rr123 (fun x => m_relay_each_api_Span_1 x p1) := ⟨113, [], [.pointer (some ⟨b2, 0, none⟩)], rfl, Tryz.call113, fun φ1 w1 x y vs le hs ha hm => by obtain rfl := ha; exact w_relay_each_api_Span_1 x p1 b2 pv1 w1 φ1 hs (hC7.le le) (h11.le le) hm⟩
 have q := bnd hm
 obtain ⟨x13, h14, hm15⟩ := q
 refine OKS.callH 0 rfl rfl rfl rfl (Enters.mk rfl rfl Tryz.call112 (mapcons rfl (mapcons rfl mapnil)) rfl) hS9 (fun hs => w_slices_ContainsFunc_api_Span_api_Span p0 pA0 pc0 (fun x => m_relay_each_api_Span_1 x p1) (.func (.func 113) #[] #[.pointer (some ⟨b2, 0, none⟩)]) W1 φ5 hs h10 hF12 h14) (.inr rfl) ?_
 rintro φ16 L17 v18 W19 le20 hS21 ⟨rfl, rfl⟩
 have hS22 : St ⟨w, [], φ⟩ φ16 [] W19 := hS21
 refine OKS.r rfl rfl rfl rfl (fun _ => Runs.notT rfl rfl) ?_
 refine OKS.ra rfl rfl rfl rfl rfl rfl ?_
 refine OKS.e ?_
 refine thenQ_n ?_
 refine CK.ret ?_
 cases hm15
 exact ⟨rfl, _, (res1 rfl), φ16, _, hS22, rfl, rfl⟩

set_option maxHeartbeats 4000000 in
theorem w_relay_Chances_1 (p0 : T_api_Span) (w : World) (φ : PHeap) (hS : St ⟨w, [], φ⟩ φ [] w)  {r : Bool} (hm : m_relay_Chances_1 p0 = some r) : Gv Tryz.prog 62 [.agg #[.int .i64 p0.Lo, .int .i64 p0.Hi]] w (RetS w [] φ (fun φ_ L_ v => v = .bool r ∧ L_ = [])) := by
 unfold m_relay_Chances_1 at hm
 refine Gv.of Tryz.func62 rfl Tryz.ntmps62 Tryz.results62 rfl ?_
 refine CK.seq ?_
 refine CK.reg (ks := []) (.fx 0 (.fl 1 (.nil)) .stop) rfl ?_
 refine OKS.box (cs := [.int .i64 p0.Lo, .int .i64 p0.Hi]) rfl rfl rfl rfl rfl rfl (by rfl) hS ?_
 intro W1 b2 hS3
 refine OKS.ra rfl rfl rfl rfl rfl rfl ?_
 refine OKS.e ?_
 refine thenQ_n ?_
 refine CK.seq ?_
 refine CK.reg (ks := []) (.fl 0 (.fl 1 (.fl 2 (.fl 3 (.fl 4 (.fl 5 (.nil))))))) rfl ?_
 refine OKS.r rfl rfl rfl rfl (fun _ => Runs.fa rfl rfl Tryz.runUnderlying46 rfl Tryz.sizeOf3) ?_
 refine OKS.m rfl rfl rfl rfl (hS3.ldB (j := 0) rfl rfl rfl Tryz.isAgg3 (v := .int .i64 p0.Lo) rfl) rfl ?_
 refine OKS.r rfl rfl rfl rfl (fun _ => Runs.fa rfl rfl Tryz.runUnderlying46 rfl Tryz.sizeOf3) ?_
 refine OKS.m rfl rfl rfl rfl (hS3.ldB (j := 0) rfl rfl rfl Tryz.isAgg3 (v := .int .i64 p0.Hi) rfl) rfl ?_
 refine OKS.r rfl rfl rfl rfl (fun _ => Runs.leq rfl rfl rfl) ?_
 refine OKS.ra rfl rfl rfl rfl rfl rfl ?_
 refine OKS.e ?_
 refine thenQ_n ?_
 refine CK.ret ?_
 cases hm
 exact ⟨rfl, _, (res1 rfl), φ, _, (hS3.pick [] _ (by decide) rfl), rfl, rfl⟩

set_option maxHeartbeats 4000000 in
theorem w_relay_Chances (p0 : List T_api_Span) (pA0 : Option Addr) (pc0 : Nat) (w : World) (φ : PHeap) (hS : St ⟨w, [], φ⟩ φ [] w) (ha0 : Sl φ 2 pA0 pc0 p0.length (List.flatMap encT_api_Span p0)) {r : (List T_api_Span) × Int} (hm : m_relay_Chances p0 = some r) : Gv Tryz.prog 18 [.slice pA0 p0.length pc0] w (RetS w [] φ (fun φ_ L_ v => ∃ (A0 : Option Addr) (c0 : Nat), v = .tuple #[.slice A0 r.1.length c0, .int .i64 r.2] ∧ L_ = [.row A0 c0 46 2 (List.flatMap encT_api_Span r.1)])) := by
 unfold m_relay_Chances at hm
 refine Gv.of Tryz.func18 rfl Tryz.ntmps18 Tryz.results18 rfl ?_
 refine CK.seq ?_
 refine CK.reg (ks := []) (.fl 0 (.fl 1 (.nil))) rfl ?_
 refine OKS.ra rfl rfl rfl rfl rfl rfl ?_
 refine OKS.ra rfl rfl rfl rfl rfl rfl ?_
 refine OKS.e ?_
 refine thenQ_n ?_
 refine CK.seq ?_
 refine CK.block ?_
 refine CK.seq ?_
 refine CK.reg (ks := []) (.fl 0 (.fl 1 (.fl 2 (.fl 3 (.nil))))) rfl ?_
 refine OKS.rm rfl rfl rfl rfl rfl rfl ?_
 refine OKS.r rfl rfl rfl rfl (fun _ => Runs.len rfl rfl Tryz.runUnderlying43) ?_
 refine OKS.r rfl rfl rfl rfl (fun _ => Runs.gtr rfl rfl rfl) ?_
 refine OKS.ra rfl rfl rfl rfl rfl rfl ?_
 refine OKS.e ?_
 refine thenQ_n ?_
 by_cases c1 : 40 < (↑p0.length : Int)
 ·have hm2 := hm; rw [if_pos c1] at hm2; replace c1 := Hid.mk c1
  refine CK.condT (decT c1.out) ?_
  refine CK.seq ?_
  refine CK.reg (ks := []) (.fl 0 (.fl 1 (.nil))) rfl ?_
  refine OKS.ra rfl rfl rfl rfl rfl rfl ?_
  refine OKS.ra rfl rfl rfl rfl rfl rfl ?_
  refine OKS.e ?_
  refine thenQ_n ?_
  refine CK.ret ?_
  refine blockQ_r ?_
  refine thenQ_r ?_
  have hS3 := hS.nilrow 46 2
  cases hm2
  exact ⟨rfl, _, (res2 rfl rfl), φ, _, hS3, none, 0, rfl, rfl⟩
 ·have hm5 := hm; rw [if_neg c1] at hm5; replace c1 := Hid.mk c1
  refine CK.condF (decF c1.out) ?_
  refine CK.seq ?_
  refine CK.reg (ks := []) (.fl 0 (.fx 1 (.fl 2 (.fl 3 (.nil))) .stop)) rfl ?_
  refine OKS.rm rfl rfl rfl rfl rfl rfl ?_
  have hF6 : FnOK Tryz.prog φ (.func (.func 62) #[] #[]) ar123 rr123 m_relay_Chances_1 := ⟨62, [], [], rfl, Tryz.call62, fun φ1 w1 x y vs le hs ha hm => by obtain rfl := ha; exact w_relay_Chances_1 x w1 φ1 hs  hm⟩
  have q := bnd hm5
  obtain ⟨x7, h8, hm9⟩ := q
  refine OKS.callH 0 rfl rfl rfl rfl (Enters.mk rfl rfl Tryz.call61 (mapcons rfl (mapcons rfl mapnil)) rfl) hS (fun hs => w_relay_each_api_Span p0 pA0 pc0 m_relay_Chances_1 (.func (.func 62) #[] #[]) w φ hs ha0 hF6 h8) (.inr rfl) ?_
  rintro φ10 L11 v12 W13 le14 hS15 ⟨rfl, rfl⟩
  have hS16 : St ⟨w, [], φ⟩ φ10 [] W13 := hS15
  refine OKS.r rfl rfl rfl rfl (fun _ => Runs.notT rfl rfl) ?_
  refine OKS.ra rfl rfl rfl rfl rfl rfl ?_
  refine OKS.e ?_
  refine thenQ_n ?_
  by_cases c17 : x7 = true
  ·have hm18 := hm9; rw [if_pos c17] at hm18; replace c17 := Hid.mk c17
   refine CK.condF (congrArg (fun b => Value.bool (!b)) c17.out) ?_
   refine CK.skip ?_
   refine blockQ_n ?_
   refine thenQ_n ?_
   refine CK.seq ?_
   refine CK.reg (ks := []) (.fl 0 (.nil)) rfl ?_
   refine OKS.ra rfl rfl rfl rfl rfl rfl ?_
   refine OKS.e ?_
   refine thenQ_n ?_
   refine CK.seq ?_
   refine CK.seq ?_
   refine CK.reg (ks := []) (.fl 0 (.fl 1 (.fl 2 (.nil)))) rfl ?_
   refine OKS.rm rfl rfl rfl rfl rfl rfl ?_
   refine OKS.r rfl rfl rfl rfl (fun _ => Runs.len rfl rfl Tryz.runUnderlying43) ?_
   refine OKS.rm rfl rfl rfl rfl rfl rfl ?_
   refine OKS.e ?_
   refine thenQ_n ?_
   refine CK.block ?_
   have q := bnd hm18
   obtain ⟨y41, hf38, hm37⟩ := q
   have q := forR'_le hf38
   obtain ⟨hle39, hf40⟩ := q
   replace hle39 := Hid.mk hle39
   refine CK.forN' (fun k36 l32 σ_ w_ => ∃ (φ_ : PHeap) (A33 : Option Addr) (c34 : Nat), σ_ 20 = .int .i64 (↑k36 : Int) ∧ σ_ 0 = .slice pA0 p0.length pc0 ∧ σ_ 4 = .slice A33 l32.length c34 ∧ σ_ 18 = .slice pA0 p0.length pc0 ∧ σ_ 19 = .int .i64 (↑p0.length : Int) ∧ PHeap.Le φ10 φ_ ∧ St ⟨w, [], φ⟩ φ_ [.row A33 c34 46 2 (List.flatMap encT_api_Span l32)] w_) hf40 ?_ ?_ ?_
   ·have hS42 := hS16.nilrow 46 2
    exact ⟨φ10, none, 0, rfl, rfl, rfl, rfl, rfl, (PHeap.Le.refl _), hS42⟩
   ·rintro k36 l32 xx46 σ44 W45 hk49 ⟨φ51, A33, c34, fi50, f54, f55, f56, f57, le52, hS53⟩ hx47
    have c58 : Hid ((↑k36 : Int) < (↑p0.length : Int)) := Hid.mk (lp_lt0 hk49)
    replace hk49 := Hid.mk hk49
    have hi59 : Hid (w64 ((↑k36 : Int) + 1) = (↑(k36 + 1) : Int)) := Hid.mk (by have h1 := hle39.out; have h2 := c58.out; rw [w64_in] <;> omega)
    refine CK.seq ?_
    refine CK.reg (ks := []) (.fl 0 (.nil)) rfl ?_
    refine OKS.r rfl rfl rfl rfl (fun _ => Runs.lss rfl fi50 f57) ?_
    refine OKS.e ?_
    refine thenQ_n ?_
    refine CK.seq ?_
    refine CK.condT (decT c58.out) ?_
    refine CK.skip ?_
    refine thenQ_n ?_
    refine CK.seq ?_
    refine CK.block ?_
    refine CK.seq ?_
    refine CK.reg (ks := []) (.fl 0 (.fl 1 (.fl 2 (.fx 3 (.fl 4 (.fx 5 (.nil) .stop)) .stop)))) rfl ?_
    refine OKS.rm rfl rfl rfl rfl rfl fi50 ?_
    have q := bnd hx47
    obtain ⟨x60, h61, hm62⟩ := q
    have h63 := ha0.le le14
    have h64 := h63.le le52
    have q := h64.el (fun _ => rfl) (idx_get h61)
    obtain ⟨b65, off66, hA67, hC68⟩ := q
    refine OKS.r rfl rfl rfl rfl (fun _ => Runs.iaN rfl f56 hA67 fi50 Tryz.runUnderlying43 Tryz.sizeOf46 (idx_lt h61)) ?_
    refine OKS.m rfl rfl rfl rfl (hS53.ldCA (f := 0) hC68 rfl rfl Tryz.isAgg46 Tryz.sizeOf46 (us := [.int .i64 x60.Lo, .int .i64 x60.Hi]) rfl rfl) rfl ?_
    refine OKS.alloc (cs := [.int .i64 0, .int .i64 0]) rfl rfl rfl rfl rfl Tryz.zeroValue46 rfl hS53 ?_
    intro W69 b70 hS71
    refine OKS.ra rfl rfl rfl rfl rfl rfl ?_
    refine OKS.st (j := 0) (vs := [.int .i64 x60.Lo, .int .i64 x60.Hi]) rfl rfl rfl rfl hS71 rfl rfl rfl rfl Tryz.sizeOf46 (Nat.le_of_ble_eq_true rfl) rfl rfl rfl ?_
    intro W73 hS74
    have hS75 : St ⟨w, [], φ⟩ φ51 [.blk b70 46 [.int .i64 x60.Lo, .int .i64 x60.Hi], .row A33 c34 46 2 (List.flatMap encT_api_Span l32)] W73 := hS74
    refine OKS.e ?_
    refine thenQ_n ?_
    refine CK.seq ?_
    refine CK.reg (ks := []) (.fl 0 (.fx 1 (.fx 2 (.nil) .stop) .stop)) rfl ?_
    refine OKS.r rfl rfl rfl rfl (fun _ => Runs.build (pv := [(0, .int .i64 1), (1, .int .i64 1)]) (z := [.int .i64 0, .int .i64 0]) (cs := [.int .i64 1, .int .i64 1]) rfl (mapcons2 rfl (mapcons2 rfl mapnil2)) Tryz.zeroValue46 places46 rfl rfl) ?_
    refine OKS.alloc (cs := [.int .i64 0, .int .i64 0]) rfl rfl rfl rfl rfl Tryz.zeroValue46 rfl hS75 ?_
    intro W76 b77 hS78
    refine OKS.st (j := 0) (vs := [.int .i64 1, .int .i64 1]) rfl rfl rfl rfl hS78 rfl rfl rfl rfl Tryz.sizeOf46 (Nat.le_of_ble_eq_true rfl) rfl rfl rfl ?_
    intro W80 hS81
    have hS82 : St ⟨w, [], φ⟩ φ51 [.blk b77 46 [.int .i64 1, .int .i64 1], .blk b70 46 [.int .i64 x60.Lo, .int .i64 x60.Hi], .row A33 c34 46 2 (List.flatMap encT_api_Span l32)] W80 := hS81
    refine OKS.e ?_
    refine thenQ_n ?_
    refine CK.seq ?_
    refine CK.seq ?_
    refine CK.reg (ks := []) (.fl 0 (.fl 1 (.fl 2 (.nil)))) rfl ?_
    refine OKS.rm rfl rfl rfl rfl rfl f54 ?_
    refine OKS.r rfl rfl rfl rfl (fun _ => Runs.len rfl rfl Tryz.runUnderlying43) ?_
    refine OKS.rm rfl rfl rfl rfl rfl rfl ?_
    refine OKS.e ?_
    refine thenQ_n ?_
    refine CK.block ?_
    have q := bnd hm62
    obtain ⟨⟨y98, y99⟩, hf95, hm94⟩ := q
    try dsimp only at hm94
    have q := forR'_le hf95
    obtain ⟨hle96, hf97⟩ := q
    replace hle96 := Hid.mk hle96
    refine CK.forN' (fun k93 (x91, x92) σ_ w_ => ∃ (φ_ : PHeap), σ_ 28 = .int .i64 (↑k93 : Int) ∧ σ_ 0 = .slice pA0 p0.length pc0 ∧ σ_ 4 = .slice A33 l32.length c34 ∧ σ_ 5 = .int .i64 (↑k36 : Int) ∧ σ_ 6 = .pointer (some ⟨b70, 0, none⟩) ∧ σ_ 7 = .pointer (some ⟨b77, 0, none⟩) ∧ σ_ 18 = .slice pA0 p0.length pc0 ∧ σ_ 19 = .int .i64 (↑p0.length : Int) ∧ σ_ 20 = .int .i64 (↑k36 : Int) ∧ σ_ 26 = .slice pA0 p0.length pc0 ∧ σ_ 27 = .int .i64 (↑p0.length : Int) ∧ PHeap.Le φ51 φ_ ∧ St ⟨w, [], φ⟩ φ_ [.blk b77 46 [.int .i64 x91, .int .i64 x92], .blk b70 46 [.int .i64 x60.Lo, .int .i64 x60.Hi], .row A33 c34 46 2 (List.flatMap encT_api_Span l32)] w_) hf97 ?_ ?_ ?_
    ·exact ⟨φ51, rfl, f54, f55, rfl, rfl, rfl, f56, f57, fi50, rfl, rfl, (PHeap.Le.refl _), hS82⟩
    ·rintro k93 ⟨x91, x92⟩ xx102 σ100 W101 hk105 ⟨φ107, fi106, f110, f111, f112, f113, f114, f115, f116, f117, f118, f119, le108, hS109⟩ hx103
     try dsimp only at hx103
     have c120 : Hid ((↑k93 : Int) < (↑p0.length : Int)) := Hid.mk (lp_lt0 hk105)
     replace hk105 := Hid.mk hk105
     have hi121 : Hid (w64 ((↑k93 : Int) + 1) = (↑(k93 + 1) : Int)) := Hid.mk (by have h1 := hle96.out; have h2 := c120.out; rw [w64_in] <;> omega)
     refine CK.seq ?_
     refine CK.reg (ks := []) (.fl 0 (.nil)) rfl ?_
     refine OKS.r rfl rfl rfl rfl (fun _ => Runs.lss rfl fi106 f119) ?_
     refine OKS.e ?_
     refine thenQ_n ?_
     refine CK.seq ?_
     refine CK.condT (decT c120.out) ?_
     refine CK.skip ?_
     refine thenQ_n ?_
     refine CK.seq ?_
     refine CK.block ?_
     refine CK.seq ?_
     refine CK.reg (ks := []) (.fl 0 (.fl 1 (.fl 2 (.fx 3 (.fl 4 (.fx 5 (.nil) .stop)) .stop)))) rfl ?_
     refine OKS.rm rfl rfl rfl rfl rfl fi106 ?_
     have q := bnd hx103
     obtain ⟨x122, h123, hm124⟩ := q
     have h125 := h64.le le108
     have q := h125.el (fun _ => rfl) (idx_get h123)
     obtain ⟨b126, off127, hA128, hC129⟩ := q
     refine OKS.r rfl rfl rfl rfl (fun _ => Runs.iaN rfl f118 hA128 fi106 Tryz.runUnderlying43 Tryz.sizeOf46 (idx_lt h123)) ?_
     refine OKS.m rfl rfl rfl rfl (hS109.ldCA (f := 0) hC129 rfl rfl Tryz.isAgg46 Tryz.sizeOf46 (us := [.int .i64 x122.Lo, .int .i64 x122.Hi]) rfl rfl) rfl ?_
     refine OKS.alloc (cs := [.int .i64 0, .int .i64 0]) rfl rfl rfl rfl rfl Tryz.zeroValue46 rfl hS109 ?_
     intro W130 b131 hS132
     refine OKS.ra rfl rfl rfl rfl rfl rfl ?_
     refine OKS.st (j := 0) (vs := [.int .i64 x122.Lo, .int .i64 x122.Hi]) rfl rfl rfl rfl hS132 rfl rfl rfl rfl Tryz.sizeOf46 (Nat.le_of_ble_eq_true rfl) rfl rfl rfl ?_
     intro W134 hS135
     have hS136 : St ⟨w, [], φ⟩ φ107 [.blk b131 46 [.int .i64 x122.Lo, .int .i64 x122.Hi], .blk b77 46 [.int .i64 x91, .int .i64 x92], .blk b70 46 [.int .i64 x60.Lo, .int .i64 x60.Hi], .row A33 c34 46 2 (List.flatMap encT_api_Span l32)] W134 := hS135
     refine OKS.e ?_
     refine thenQ_n ?_
     refine CK.seq ?_
     refine CK.seq ?_
     refine CK.reg (ks := []) (.fl 0 (.fl 1 (.fl 2 (.fl 3 (.fl 4 (.fl 5 (.fl 6 (.fl 7 (.fl 8 (.fl 9 (.nil))))))))))) rfl ?_
     refine OKS.rm rfl rfl rfl rfl rfl rfl ?_
     refine OKS.rm rfl rfl rfl rfl rfl f112 ?_
     refine OKS.r rfl rfl rfl rfl (fun _ => Runs.neq rfl rfl rfl) ?_
     refine OKS.rm rfl rfl rfl rfl rfl rfl ?_
     by_cases c137 : (↑k93 : Int) = (↑k36 : Int)
     ·have hm138 := hm124; rw [if_pos c137] at hm138; replace c137 := Hid.mk c137
      refine OKS.p rfl rfl rfl (wantedN rfl rfl (decF (fun h => h c137.out)) rfl) ?_
      refine OKS.p rfl rfl rfl (wantedN rfl rfl (decF (fun h => h c137.out)) rfl) ?_
      refine OKS.p rfl rfl rfl (wantedN rfl rfl (decF (fun h => h c137.out)) rfl) ?_
      refine OKS.p rfl rfl rfl (wantedN rfl rfl (decF (fun h => h c137.out)) rfl) ?_
      refine OKS.p rfl rfl rfl (wantedN rfl rfl (decF (fun h => h c137.out)) rfl) ?_
      refine OKS.r rfl rfl rfl rfl (fun _ => Runs.pickF rfl (decF (fun h => h c137.out)) rfl) ?_
      refine OKS.e ?_
      refine thenQ_n ?_
      refine CK.condF rfl ?_
      refine CK.skip ?_
      refine thenQ_n ?_
      refine CK.seq ?_
      refine CK.reg (ks := []) (.fl 0 (.fl 1 (.fl 2 (.fl 3 (.fl 4 (.fl 5 (.fl 6 (.fl 7 (.fl 8 (.fl 9 (.nil))))))))))) rfl ?_
      refine OKS.rm rfl rfl rfl rfl rfl rfl ?_
      refine OKS.rm rfl rfl rfl rfl rfl f112 ?_
      refine OKS.r rfl rfl rfl rfl (fun _ => Runs.neq rfl rfl rfl) ?_
      refine OKS.rm rfl rfl rfl rfl rfl rfl ?_
      refine OKS.p rfl rfl rfl (wantedN rfl rfl (decF (fun h => h c137.out)) rfl) ?_
      refine OKS.p rfl rfl rfl (wantedN rfl rfl (decF (fun h => h c137.out)) rfl) ?_
      refine OKS.p rfl rfl rfl (wantedN rfl rfl (decF (fun h => h c137.out)) rfl) ?_
      refine OKS.p rfl rfl rfl (wantedN rfl rfl (decF (fun h => h c137.out)) rfl) ?_
      refine OKS.p rfl rfl rfl (wantedN rfl rfl (decF (fun h => h c137.out)) rfl) ?_
      refine OKS.r rfl rfl rfl rfl (fun _ => Runs.pickF rfl (decF (fun h => h c137.out)) rfl) ?_
      refine OKS.e ?_
      refine thenQ_n ?_
      refine CK.condF rfl ?_
      refine CK.skip ?_
      refine blockQ_n ?_
      refine thenQ_n ?_
      refine CK.reg (ks := []) (.fl 0 (.fl 1 (.nil))) rfl ?_
      refine OKS.r rfl rfl rfl rfl (fun _ => Runs.to (Runs.addw rfl fi106 rfl) (congrArg (Value.int .i64) hi121.out)) ?_
      refine OKS.rm rfl rfl rfl rfl rfl rfl ?_
      refine OKS.e ?_
      cases hm138
      exact thenQ_n ⟨rfl, ⟨φ107, rfl, f110, f111, f112, f113, f114, f115, f116, f117, f118, f119, le108, (hS136.pick [1, 2, 3] _ (by decide) rfl)⟩⟩
     ·have hm141 := hm124; rw [if_neg c137] at hm141; replace c137 := Hid.mk c137
      refine OKS.r rfl rfl rfl (wantedY rfl rfl (decT c137.out)) (fun _ => Runs.fa rfl rfl Tryz.runUnderlying46 rfl Tryz.sizeOf3) ?_
      refine OKS.m rfl rfl rfl (wantedY rfl rfl (decT c137.out)) (hS136.ldB (j := 0) rfl rfl rfl Tryz.isAgg3 (v := .int .i64 x122.Hi) rfl) rfl ?_
      refine OKS.r rfl rfl rfl (wantedY rfl rfl (decT c137.out)) (fun _ => Runs.fa rfl f113 Tryz.runUnderlying46 rfl Tryz.sizeOf3) ?_
      refine OKS.m rfl rfl rfl (wantedY rfl rfl (decT c137.out)) (hS136.ldB (j := 2) rfl rfl rfl Tryz.isAgg3 (v := .int .i64 x60.Lo) rfl) rfl ?_
      refine OKS.r rfl rfl rfl (wantedY rfl rfl (decT c137.out)) (fun _ => Runs.lss rfl rfl rfl) ?_
      refine OKS.r rfl rfl rfl rfl (fun _ => Runs.pickT rfl (decT c137.out) rfl) ?_
      refine OKS.e ?_
      refine thenQ_n ?_
      by_cases c142 : x122.Hi < x60.Lo
      ·have hm143 := hm141; rw [if_pos c142] at hm143; replace c142 := Hid.mk c142
       refine CK.condT (decT c142.out) ?_
       refine CK.reg (ks := []) (.fl 0 (.fl 1 (.fl 2 (.fl 3 (.fx 4 (.nil) .stop))))) rfl ?_
       refine OKS.r rfl rfl rfl rfl (fun _ => Runs.fa rfl f114 Tryz.runUnderlying46 rfl Tryz.sizeOf3) ?_
       refine OKS.m rfl rfl rfl rfl (hS136.ldB (j := 1) rfl rfl rfl Tryz.isAgg3 (v := .int .i64 x91) rfl) rfl ?_
       refine OKS.r rfl rfl rfl rfl (fun _ => Runs.addw rfl rfl rfl) ?_
       refine OKS.r rfl rfl rfl rfl (fun _ => Runs.fa rfl f114 Tryz.runUnderlying46 rfl Tryz.sizeOf3) ?_
       refine OKS.st (j := 1) (vs := [.int .i64 (w64 (x91 + 1))]) rfl rfl rfl rfl hS136 rfl rfl rfl rfl Tryz.sizeOf3 (Nat.le_of_ble_eq_true rfl) rfl rfl rfl ?_
       intro W144 hS145
       have hS146 : St ⟨w, [], φ⟩ φ107 [.blk b131 46 [.int .i64 x122.Lo, .int .i64 x122.Hi], .blk b77 46 [.int .i64 (w64 (x91 + 1)), .int .i64 x92], .blk b70 46 [.int .i64 x60.Lo, .int .i64 x60.Hi], .row A33 c34 46 2 (List.flatMap encT_api_Span l32)] W144 := hS145
       refine OKS.e ?_
       refine thenQ_n ?_
       refine CK.seq ?_
       refine CK.reg (ks := []) (.fl 0 (.fl 1 (.fl 2 (.fl 3 (.fl 4 (.fl 5 (.fl 6 (.fl 7 (.fl 8 (.fl 9 (.nil))))))))))) rfl ?_
       refine OKS.rm rfl rfl rfl rfl rfl rfl ?_
       refine OKS.rm rfl rfl rfl rfl rfl f112 ?_
       refine OKS.r rfl rfl rfl rfl (fun _ => Runs.neq rfl rfl rfl) ?_
       refine OKS.rm rfl rfl rfl rfl rfl rfl ?_
       refine OKS.r rfl rfl rfl (wantedY rfl rfl (decT c137.out)) (fun _ => Runs.fa rfl rfl Tryz.runUnderlying46 rfl Tryz.sizeOf3) ?_
       refine OKS.m rfl rfl rfl (wantedY rfl rfl (decT c137.out)) (hS146.ldB (j := 0) rfl rfl rfl Tryz.isAgg3 (v := .int .i64 x122.Lo) rfl) rfl ?_
       refine OKS.r rfl rfl rfl (wantedY rfl rfl (decT c137.out)) (fun _ => Runs.fa rfl f113 Tryz.runUnderlying46 rfl Tryz.sizeOf3) ?_
       refine OKS.m rfl rfl rfl (wantedY rfl rfl (decT c137.out)) (hS146.ldB (j := 2) rfl rfl rfl Tryz.isAgg3 (v := .int .i64 x60.Hi) rfl) rfl ?_
       refine OKS.r rfl rfl rfl (wantedY rfl rfl (decT c137.out)) (fun _ => Runs.lss rfl rfl rfl) ?_
       refine OKS.r rfl rfl rfl rfl (fun _ => Runs.pickT rfl (decT c137.out) rfl) ?_
       refine OKS.e ?_
       refine thenQ_n ?_
       by_cases c147 : x122.Lo < x60.Hi
       ·have hm148 := hm143; rw [if_pos c147] at hm148; replace c147 := Hid.mk c147
        refine CK.condT (decT c147.out) ?_
        refine CK.reg (ks := []) (.fl 0 (.fl 1 (.fl 2 (.fl 3 (.fx 4 (.nil) .stop))))) rfl ?_
        refine OKS.r rfl rfl rfl rfl (fun _ => Runs.fa rfl f114 Tryz.runUnderlying46 rfl Tryz.sizeOf3) ?_
        refine OKS.m rfl rfl rfl rfl (hS146.ldB (j := 1) rfl rfl rfl Tryz.isAgg3 (v := .int .i64 x92) rfl) rfl ?_
        refine OKS.r rfl rfl rfl rfl (fun _ => Runs.addw rfl rfl rfl) ?_
        refine OKS.r rfl rfl rfl rfl (fun _ => Runs.fa rfl f114 Tryz.runUnderlying46 rfl Tryz.sizeOf3) ?_
        refine OKS.st (j := 1) (vs := [.int .i64 (w64 (x92 + 1))]) rfl rfl rfl rfl hS146 rfl rfl rfl rfl Tryz.sizeOf3 (Nat.le_of_ble_eq_true rfl) rfl rfl rfl ?_
        intro W149 hS150
        have hS151 : St ⟨w, [], φ⟩ φ107 [.blk b131 46 [.int .i64 x122.Lo, .int .i64 x122.Hi], .blk b77 46 [.int .i64 (w64 (x91 + 1)), .int .i64 (w64 (x92 + 1))], .blk b70 46 [.int .i64 x60.Lo, .int .i64 x60.Hi], .row A33 c34 46 2 (List.flatMap encT_api_Span l32)] W149 := hS150
        refine OKS.e ?_
        refine blockQ_n ?_
        refine thenQ_n ?_
        refine CK.reg (ks := []) (.fl 0 (.fl 1 (.nil))) rfl ?_
        refine OKS.r rfl rfl rfl rfl (fun _ => Runs.to (Runs.addw rfl fi106 rfl) (congrArg (Value.int .i64) hi121.out)) ?_
        refine OKS.rm rfl rfl rfl rfl rfl rfl ?_
        refine OKS.e ?_
        cases hm148
        exact thenQ_n ⟨rfl, ⟨φ107, rfl, f110, f111, f112, f113, f114, f115, f116, f117, f118, f119, le108, (hS151.pick [1, 2, 3] _ (by decide) rfl)⟩⟩
       ·have hm154 := hm143; rw [if_neg c147] at hm154; replace c147 := Hid.mk c147
        refine CK.condF (decF c147.out) ?_
        refine CK.skip ?_
        refine blockQ_n ?_
        refine thenQ_n ?_
        refine CK.reg (ks := []) (.fl 0 (.fl 1 (.nil))) rfl ?_
        refine OKS.r rfl rfl rfl rfl (fun _ => Runs.to (Runs.addw rfl fi106 rfl) (congrArg (Value.int .i64) hi121.out)) ?_
        refine OKS.rm rfl rfl rfl rfl rfl rfl ?_
        refine OKS.e ?_
        cases hm154
        exact thenQ_n ⟨rfl, ⟨φ107, rfl, f110, f111, f112, f113, f114, f115, f116, f117, f118, f119, le108, (hS146.pick [1, 2, 3] _ (by decide) rfl)⟩⟩
      ·have hm157 := hm141; rw [if_neg c142] at hm157; replace c142 := Hid.mk c142
       refine CK.condF (decF c142.out) ?_
       refine CK.skip ?_
       refine thenQ_n ?_
       refine CK.seq ?_
       refine CK.reg (ks := []) (.fl 0 (.fl 1 (.fl 2 (.fl 3 (.fl 4 (.fl 5 (.fl 6 (.fl 7 (.fl 8 (.fl 9 (.nil))))))))))) rfl ?_
       refine OKS.rm rfl rfl rfl rfl rfl rfl ?_
       refine OKS.rm rfl rfl rfl rfl rfl f112 ?_
       refine OKS.r rfl rfl rfl rfl (fun _ => Runs.neq rfl rfl rfl) ?_
       refine OKS.rm rfl rfl rfl rfl rfl rfl ?_
       refine OKS.r rfl rfl rfl (wantedY rfl rfl (decT c137.out)) (fun _ => Runs.fa rfl rfl Tryz.runUnderlying46 rfl Tryz.sizeOf3) ?_
       refine OKS.m rfl rfl rfl (wantedY rfl rfl (decT c137.out)) (hS136.ldB (j := 0) rfl rfl rfl Tryz.isAgg3 (v := .int .i64 x122.Lo) rfl) rfl ?_
       refine OKS.r rfl rfl rfl (wantedY rfl rfl (decT c137.out)) (fun _ => Runs.fa rfl f113 Tryz.runUnderlying46 rfl Tryz.sizeOf3) ?_
       refine OKS.m rfl rfl rfl (wantedY rfl rfl (decT c137.out)) (hS136.ldB (j := 2) rfl rfl rfl Tryz.isAgg3 (v := .int .i64 x60.Hi) rfl) rfl ?_
       refine OKS.r rfl rfl rfl (wantedY rfl rfl (decT c137.out)) (fun _ => Runs.lss rfl rfl rfl) ?_
       refine OKS.r rfl rfl rfl rfl (fun _ => Runs.pickT rfl (decT c137.out) rfl) ?_
       refine OKS.e ?_
       refine thenQ_n ?_
       by_cases c158 : x122.Lo < x60.Hi
       ·have hm159 := hm157; rw [if_pos c158] at hm159; replace c158 := Hid.mk c158
        refine CK.condT (decT c158.out) ?_
        refine CK.reg (ks := []) (.fl 0 (.fl 1 (.fl 2 (.fl 3 (.fx 4 (.nil) .stop))))) rfl ?_
        refine OKS.r rfl rfl rfl rfl (fun _ => Runs.fa rfl f114 Tryz.runUnderlying46 rfl Tryz.sizeOf3) ?_
        refine OKS.m rfl rfl rfl rfl (hS136.ldB (j := 1) rfl rfl rfl Tryz.isAgg3 (v := .int .i64 x92) rfl) rfl ?_
        refine OKS.r rfl rfl rfl rfl (fun _ => Runs.addw rfl rfl rfl) ?_
        refine OKS.r rfl rfl rfl rfl (fun _ => Runs.fa rfl f114 Tryz.runUnderlying46 rfl Tryz.sizeOf3) ?_
        refine OKS.st (j := 1) (vs := [.int .i64 (w64 (x92 + 1))]) rfl rfl rfl rfl hS136 rfl rfl rfl rfl Tryz.sizeOf3 (Nat.le_of_ble_eq_true rfl) rfl rfl rfl ?_
        intro W160 hS161
        have hS162 : St ⟨w, [], φ⟩ φ107 [.blk b131 46 [.int .i64 x122.Lo, .int .i64 x122.Hi], .blk b77 46 [.int .i64 x91, .int .i64 (w64 (x92 + 1))], .blk b70 46 [.int .i64 x60.Lo, .int .i64 x60.Hi], .row A33 c34 46 2 (List.flatMap encT_api_Span l32)] W160 := hS161
        refine OKS.e ?_
        refine blockQ_n ?_
        refine thenQ_n ?_
        refine CK.reg (ks := []) (.fl 0 (.fl 1 (.nil))) rfl ?_
        refine OKS.r rfl rfl rfl rfl (fun _ => Runs.to (Runs.addw rfl fi106 rfl) (congrArg (Value.int .i64) hi121.out)) ?_
        refine OKS.rm rfl rfl rfl rfl rfl rfl ?_
        refine OKS.e ?_
        cases hm159
        exact thenQ_n ⟨rfl, ⟨φ107, rfl, f110, f111, f112, f113, f114, f115, f116, f117, f118, f119, le108, (hS162.pick [1, 2, 3] _ (by decide) rfl)⟩⟩
       ·have hm165 := hm157; rw [if_neg c158] at hm165; replace c158 := Hid.mk c158
        refine CK.condF (decF c158.out) ?_
        refine CK.skip ?_
        refine blockQ_n ?_
        refine thenQ_n ?_
        refine CK.reg (ks := []) (.fl 0 (.fl 1 (.nil))) rfl ?_
        refine OKS.r rfl rfl rfl rfl (fun _ => Runs.to (Runs.addw rfl fi106 rfl) (congrArg (Value.int .i64) hi121.out)) ?_
        refine OKS.rm rfl rfl rfl rfl rfl rfl ?_
        refine OKS.e ?_
        cases hm165
        exact thenQ_n ⟨rfl, ⟨φ107, rfl, f110, f111, f112, f113, f114, f115, f116, f117, f118, f119, le108, (hS136.pick [1, 2, 3] _ (by decide) rfl)⟩⟩
    ·rintro σ168 W169 ⟨φ174, fi171, f177, f178, f179, f180, f181, f182, f183, f184, f185, f186, le175, hS176⟩
     have c187 : Hid (¬ ((↑(((↑p0.length : Int) : Int) - 0).toNat : Int) < (↑p0.length : Int))) := Hid.mk (lp_end0)
     refine CK.seq ?_
     refine CK.reg (ks := []) (.fl 0 (.nil)) rfl ?_
     refine OKS.r rfl rfl rfl rfl (fun _ => Runs.lss rfl fi171 f186) ?_
     refine OKS.e ?_
     refine thenQ_n ?_
     refine CK.seq ?_
     refine CK.condF (decF c187.out) ?_
     refine CK.exit ?_
     refine thenQ_e ?_
     refine thenQ_e ?_
     refine blockQ_h ?_
     refine thenQ_n ?_
     refine CK.reg (ks := []) (.fl 0 (.fl 1 (.fx 2 (.fx 3 (.fl 4 (.nil)) .stop) .stop))) rfl ?_
     refine OKS.rm rfl rfl rfl rfl rfl f178 ?_
     refine OKS.m rfl rfl rfl rfl (hS176.ldBA (j := 0) rfl rfl f181 Tryz.isAgg46 Tryz.sizeOf46 (vs := [.int .i64 y98, .int .i64 y99]) rfl rfl) rfl ?_
     refine OKS.buildSlice (pv := [(0, .agg #[.int .i64 y98, .int .i64 y99])]) (zs := [.int .i64 0, .int .i64 0]) (cs := [.int .i64 y98, .int .i64 y99]) rfl rfl rfl rfl rfl (mapcons2 rfl mapnil2) Tryz.runUnderlying43 Tryz.sizeOf46 Tryz.zeroValue46 rfl rfl rfl rfl rfl hS176 ?_
     intro W188 b189 hS190
     have hS192 : St ⟨w, [], φ⟩ φ174 [.row (some ⟨b189, 0, none⟩) 1 46 2 (List.flatMap encT_api_Span [(⟨y98, y99⟩ : T_api_Span)]), .blk b77 46 [.int .i64 y98, .int .i64 y99], .blk b70 46 [.int .i64 x60.Lo, .int .i64 x60.Hi], .row A33 c34 46 2 (List.flatMap encT_api_Span l32)] W188 := hS190
     have q := bnd hm94
     obtain ⟨x193, h194, hm195⟩ := q
     refine OKS.append (j := 3) (enc := encT_api_Span) (xs := l32) (ys := [(⟨y98, y99⟩ : T_api_Span)]) (zs := x193) rfl rfl rfl rfl rfl Tryz.underlying43 info46 rfl rfl rfl rfl rfl rfl hS192 rfl rfl rfl (hS192.srcR (j := 0) rfl (by decide) (flatMap_len (f := encT_api_Span) (sz := 2) (fun _ => rfl) [(⟨y98, y99⟩ : T_api_Span)])) (fun _ => rfl) (fun _ => rfl) h194 rfl ?_
     intro A196 c197 W198 hS199
     have hS200 : St ⟨w, [], φ⟩ φ174 [.row (some ⟨b189, 0, none⟩) 1 46 2 (List.flatMap encT_api_Span [(⟨y98, y99⟩ : T_api_Span)]), .blk b77 46 [.int .i64 y98, .int .i64 y99], .blk b70 46 [.int .i64 x60.Lo, .int .i64 x60.Hi], .row A196 c197 46 2 (List.flatMap encT_api_Span x193)] W198 := hS199
     refine OKS.ra rfl rfl rfl rfl rfl rfl ?_
     refine OKS.e ?_
     refine blockQ_n ?_
     refine thenQ_n ?_
     refine CK.reg (ks := []) (.fl 0 (.fl 1 (.nil))) rfl ?_
     refine OKS.r rfl rfl rfl rfl (fun _ => Runs.to (Runs.addw rfl f184 rfl) (congrArg (Value.int .i64) hi59.out)) ?_
     refine OKS.rm rfl rfl rfl rfl rfl rfl ?_
     refine OKS.e ?_
     cases hm195
     exact thenQ_n ⟨rfl, ⟨φ174, A196, c197, rfl, f177, rfl, f182, f183, (le52.trans le175), (hS200.pick [3] _ (by decide) rfl)⟩⟩
   ·rintro σ204 W205 ⟨φ213, A211, c212, fi207, f216, f217, f218, f219, le214, hS215⟩
    have c220 : Hid (¬ ((↑(((↑p0.length : Int) : Int) - 0).toNat : Int) < (↑p0.length : Int))) := Hid.mk (lp_end0)
    refine CK.seq ?_
    refine CK.reg (ks := []) (.fl 0 (.nil)) rfl ?_
    refine OKS.r rfl rfl rfl rfl (fun _ => Runs.lss rfl fi207 f219) ?_
    refine OKS.e ?_
    refine thenQ_n ?_
    refine CK.seq ?_
    refine CK.condF (decF c220.out) ?_
    refine CK.exit ?_
    refine thenQ_e ?_
    refine thenQ_e ?_
    refine blockQ_h ?_
    refine thenQ_n ?_
    refine CK.seq ?_
    refine CK.reg (ks := []) (.fl 0 (.fl 1 (.fl 2 (.nil)))) rfl ?_
    refine OKS.rm rfl rfl rfl rfl rfl f217 ?_
    refine OKS.ra rfl rfl rfl rfl rfl rfl ?_
    refine OKS.ra rfl rfl rfl rfl rfl rfl ?_
    refine OKS.e ?_
    refine thenQ_n ?_
    refine CK.ret ?_
    cases hm37
    exact ⟨rfl, _, (res2 rfl rfl), φ213, _, hS215, A211, c212, rfl, rfl⟩
  ·have hm221 := hm9; rw [if_neg c17] at hm221; replace c17 := Hid.mk c17
   refine CK.condT (congrArg (fun b => Value.bool (!b)) (Bool.eq_false_iff.2 c17.out)) ?_
   refine CK.seq ?_
   refine CK.reg (ks := []) (.fl 0 (.fl 1 (.nil))) rfl ?_
   refine OKS.ra rfl rfl rfl rfl rfl rfl ?_
   refine OKS.ra rfl rfl rfl rfl rfl rfl ?_
   refine OKS.e ?_
   refine thenQ_n ?_
   refine CK.ret ?_
   refine blockQ_r ?_
   refine thenQ_r ?_
   have hS222 := hS16.nilrow 46 2
   cases hm221
   exact ⟨rfl, _, (res2 rfl rfl), φ10, _, hS222, none, 0, rfl, rfl⟩

set_option maxHeartbeats 4000000 in
theorem w_klisterref08_Chances (p0 : List T_api_Span) (pA0 : Option Addr) (pc0 : Nat) (w : World) (φ : PHeap) (hS : St ⟨w, [], φ⟩ φ [] w) (ha0 : Sl φ 2 pA0 pc0 p0.length (List.flatMap encT_api_Span p0)) {r : (List T_api_Span) × Int} (hm : m_klisterref08_Chances p0 = some r) : Gv Tryz.prog 19 [.slice pA0 p0.length pc0] w (RetS w [] φ (fun φ_ L_ v => ∃ (A0 : Option Addr) (c0 : Nat), v = .tuple #[.slice A0 r.1.length c0, .int .i64 r.2] ∧ L_ = [.row A0 c0 46 2 (List.flatMap encT_api_Span r.1)])) := by
 unfold m_klisterref08_Chances at hm
 refine Gv.of Tryz.func19 rfl Tryz.ntmps19 Tryz.results19 rfl ?_
 refine CK.seq ?_
 refine CK.reg (ks := []) (.fl 0 (.fl 1 (.nil))) rfl ?_
 refine OKS.ra rfl rfl rfl rfl rfl rfl ?_
 refine OKS.ra rfl rfl rfl rfl rfl rfl ?_
 refine OKS.e ?_
 refine thenQ_n ?_
 refine CK.seq ?_
 refine CK.seq ?_
 refine CK.reg (ks := []) (.fl 0 (.fl 1 (.fl 2 (.nil)))) rfl ?_
 refine OKS.rm rfl rfl rfl rfl rfl rfl ?_
 refine OKS.r rfl rfl rfl rfl (fun _ => Runs.len rfl rfl Tryz.runUnderlying43) ?_
 refine OKS.r rfl rfl rfl rfl (fun _ => Runs.gtr rfl rfl rfl) ?_
 refine OKS.e ?_
 refine thenQ_n ?_
 by_cases c1 : 40 < (↑p0.length : Int)
 ·have hm2 := hm; rw [if_pos c1] at hm2; replace c1 := Hid.mk c1
  refine CK.condT (decT c1.out) ?_
  refine CK.seq ?_
  refine CK.reg (ks := []) (.fl 0 (.fl 1 (.nil))) rfl ?_
  refine OKS.ra rfl rfl rfl rfl rfl rfl ?_
  refine OKS.ra rfl rfl rfl rfl rfl rfl ?_
  refine OKS.e ?_
  refine thenQ_n ?_
  refine CK.ret ?_
  refine thenQ_r ?_
  have hS3 := hS.nilrow 46 2
  cases hm2
  exact ⟨rfl, _, (res2 rfl rfl), φ, _, hS3, none, 0, rfl, rfl⟩
 ·have hm5 := hm; rw [if_neg c1] at hm5; replace c1 := Hid.mk c1
  refine CK.condF (decF c1.out) ?_
  refine CK.skip ?_
  refine thenQ_n ?_
  refine CK.seq ?_
  refine CK.seq ?_
  refine CK.reg (ks := []) (.fl 0 (.nil)) rfl ?_
  refine OKS.ra rfl rfl rfl rfl rfl rfl ?_
  refine OKS.e ?_
  refine thenQ_n ?_
  refine CK.block ?_
  have q := jn_some hm5
  obtain ⟨r8, hX9⟩ := q
  have q := forR_le hX9
  obtain ⟨hle10, hf11⟩ := q
  replace hle10 := Hid.mk hle10
  refine CK.forN (fun k7 _ σ_ w_ => ∃ (φ_ : PHeap), σ_ 4 = .int .i64 (↑k7 : Int) ∧ σ_ 0 = .slice pA0 p0.length pc0 ∧ PHeap.Le φ φ_ ∧ St ⟨w, [], φ⟩ φ_ [] w_) hf11 ?_ ?_ ?_
  ·exact ⟨φ, rfl, rfl, (PHeap.Le.refl _), hS⟩
  ·rintro k7 ⟨⟩ xx14 σ12 W13 hk17 ⟨φ19, fi18, f22, le20, hS21⟩ hx15 hb16
   try dsimp only at hx15
   have c23 : Hid ((↑k7 : Int) < (↑p0.length : Int)) := Hid.mk (lp_lt0 hk17)
   replace hk17 := Hid.mk hk17
   have hi24 : Hid (w64 ((↑k7 : Int) + 1) = (↑(k7 + 1) : Int)) := Hid.mk (by have h1 := hle10.out; have h2 := c23.out; rw [w64_in] <;> omega)
   refine CK.seq ?_
   refine CK.seq ?_
   refine CK.reg (ks := []) (.fl 0 (.fl 1 (.fl 2 (.fl 3 (.nil))))) rfl ?_
   refine OKS.rm rfl rfl rfl rfl rfl fi18 ?_
   refine OKS.rm rfl rfl rfl rfl rfl f22 ?_
   refine OKS.r rfl rfl rfl rfl (fun _ => Runs.len rfl rfl Tryz.runUnderlying43) ?_
   refine OKS.r rfl rfl rfl rfl (fun _ => Runs.lss rfl rfl rfl) ?_
   refine OKS.e ?_
   refine thenQ_n ?_
   refine CK.condT (decT c23.out) ?_
   refine CK.skip ?_
   refine thenQ_n ?_
   refine CK.seq ?_
   refine CK.block ?_
   refine CK.seq ?_
   refine CK.anyOrd Tryz.mixed [3, 3, 3, 3, 1, 3, 3, 3, 3, 1, 3] (.fl 0 (.fl 1 (.fl 2 (.fl 3 (.fl 4 (.fl 5 (.fl 6 (.fl 7 (.fl 8 (.fl 9 (.fl 10 (.nil)))))))))))) (by kernel_rfl) ?_
   have hS25 := hS21.drew
   generalize hw_W26 : ({ W13 with drawn := W13.drawn + 1 } : World) = W26 at hS25 ⊢
   refine OKS.rm rfl rfl rfl rfl rfl f22 ?_
   refine OKS.rm rfl rfl rfl rfl rfl fi18 ?_
   have q := bnd hx15
   obtain ⟨x27, h28, hm29⟩ := q
   have h30 := ha0.le le20
   have q := h30.el (fun _ => rfl) (idx_get h28)
   obtain ⟨b31, off32, hA33, hC34⟩ := q
   refine OKS.r rfl rfl rfl rfl (fun _ => Runs.iaN rfl rfl hA33 rfl Tryz.runUnderlying43 Tryz.sizeOf46 (idx_lt h28)) ?_
   refine OKS.r rfl rfl rfl rfl (fun _ => Runs.fa rfl rfl Tryz.runUnderlying46 rfl Tryz.sizeOf3) ?_
   refine OKS.m rfl rfl rfl rfl (hS25.ldC (f := 0) hC34 (v := .int .i64 x27.Lo) rfl rfl Tryz.isAgg3 rfl) rfl ?_
   refine OKS.rm rfl rfl rfl rfl rfl f22 ?_
   refine OKS.rm rfl rfl rfl rfl rfl fi18 ?_
   have q := h30.el (fun _ => rfl) (idx_get h28)
   obtain ⟨b35, off36, hA37, hC38⟩ := q
   refine OKS.r rfl rfl rfl rfl (fun _ => Runs.iaN rfl rfl hA37 rfl Tryz.runUnderlying43 Tryz.sizeOf46 (idx_lt h28)) ?_
   refine OKS.r rfl rfl rfl rfl (fun _ => Runs.fa rfl rfl Tryz.runUnderlying46 rfl Tryz.sizeOf3) ?_
   refine OKS.m rfl rfl rfl rfl (hS25.ldC (f := 1) hC38 (v := .int .i64 x27.Hi) rfl rfl Tryz.isAgg3 rfl) rfl ?_
   refine OKS.r rfl rfl rfl rfl (fun _ => Runs.gtr rfl rfl rfl) ?_
   refine OKS.e ?_
   refine thenQ_n ?_
   by_cases c39 : x27.Hi < x27.Lo
   ·have hm40 := hm29; rw [if_pos c39] at hm40; replace c39 := Hid.mk c39
    refine CK.condT (decT c39.out) ?_
    refine CK.seq ?_
    refine CK.reg (ks := []) (.fl 0 (.fl 1 (.nil))) rfl ?_
    refine OKS.ra rfl rfl rfl rfl rfl rfl ?_
    refine OKS.ra rfl rfl rfl rfl rfl rfl ?_
    refine OKS.e ?_
    refine thenQ_n ?_
    refine CK.ret ?_
    refine blockQ_r ?_
    refine thenQ_r ?_
    have q := esc_spec hm40
    obtain ⟨v41, hm42, e43⟩ := q
    obtain rfl := jn_inr hm5 hX9 (hb16 v41 e43)
    refine thenQ_r ?_
    refine blockQ_r ?_
    refine thenQ_r ?_
    have hS44 := hS25.nilrow 46 2
    cases hm42
    exact ⟨rfl, _, (res2 rfl rfl), φ19, _, hS44, none, 0, rfl, rfl⟩
   ·have hm46 := hm29; rw [if_neg c39] at hm46; replace c39 := Hid.mk c39
    refine CK.condF (decF c39.out) ?_
    refine CK.skip ?_
    refine blockQ_n ?_
    refine thenQ_n ?_
    refine CK.reg (ks := []) (.fl 0 (.fl 1 (.fl 2 (.nil)))) rfl ?_
    refine OKS.rm rfl rfl rfl rfl rfl fi18 ?_
    refine OKS.r rfl rfl rfl rfl (fun _ => Runs.to (Runs.addw rfl rfl rfl) (congrArg (Value.int .i64) hi24.out)) ?_
    refine OKS.ra rfl rfl rfl rfl rfl rfl ?_
    refine OKS.e ?_
    obtain rfl := Option.some.inj hm46
    exact thenQ_n ⟨rfl, _, rfl, ⟨φ19, rfl, f22, le20, hS25⟩⟩
  ·rintro ⟨⟩ σ47 W48 ⟨φ51, fi50, f54, le52, hS53⟩ hb49
   have hm55 := jn_inl hm5 hX9 hb49
   try dsimp only at hm55
   have c56 : Hid (¬ ((↑(((↑p0.length : Int) : Int) - 0).toNat : Int) < (↑p0.length : Int))) := Hid.mk (lp_end0)
   refine CK.seq ?_
   refine CK.seq ?_
   refine CK.reg (ks := []) (.fl 0 (.fl 1 (.fl 2 (.fl 3 (.nil))))) rfl ?_
   refine OKS.rm rfl rfl rfl rfl rfl fi50 ?_
   refine OKS.rm rfl rfl rfl rfl rfl f54 ?_
   refine OKS.r rfl rfl rfl rfl (fun _ => Runs.len rfl rfl Tryz.runUnderlying43) ?_
   refine OKS.r rfl rfl rfl rfl (fun _ => Runs.lss rfl rfl rfl) ?_
   refine OKS.e ?_
   refine thenQ_n ?_
   refine CK.condF (decF c56.out) ?_
   refine CK.exit ?_
   refine thenQ_e ?_
   refine thenQ_e ?_
   refine blockQ_h ?_
   refine thenQ_n ?_
   refine CK.seq ?_
   refine CK.reg (ks := []) (.fl 0 (.nil)) rfl ?_
   refine OKS.ra rfl rfl rfl rfl rfl rfl ?_
   refine OKS.e ?_
   refine thenQ_n ?_
   refine CK.seq ?_
   refine CK.seq ?_
   refine CK.reg (ks := []) (.fl 0 (.nil)) rfl ?_
   refine OKS.ra rfl rfl rfl rfl rfl rfl ?_
   refine OKS.e ?_
   refine thenQ_n ?_
   refine CK.block ?_
   have q := bnd hm55
   obtain ⟨y79, hf76, hm75⟩ := q
   have q := forR'_le hf76
   obtain ⟨hle77, hf78⟩ := q
   replace hle77 := Hid.mk hle77
   refine CK.forN' (fun k74 l70 σ_ w_ => ∃ (φ_ : PHeap) (A71 : Option Addr) (c72 : Nat), σ_ 6 = .int .i64 (↑k74 : Int) ∧ σ_ 0 = .slice pA0 p0.length pc0 ∧ σ_ 5 = .slice A71 l70.length c72 ∧ PHeap.Le φ51 φ_ ∧ St ⟨w, [], φ⟩ φ_ [.row A71 c72 46 2 (List.flatMap encT_api_Span l70)] w_) hf78 ?_ ?_ ?_
   ·have hS80 := hS53.nilrow 46 2
    exact ⟨φ51, none, 0, rfl, f54, rfl, (PHeap.Le.refl _), hS80⟩
   ·rintro k74 l70 xx84 σ82 W83 hk87 ⟨φ89, A71, c72, fi88, f92, f93, le90, hS91⟩ hx85
    have c94 : Hid ((↑k74 : Int) < (↑p0.length : Int)) := Hid.mk (lp_lt0 hk87)
    replace hk87 := Hid.mk hk87
    have hi95 : Hid (w64 ((↑k74 : Int) + 1) = (↑(k74 + 1) : Int)) := Hid.mk (by have h1 := hle77.out; have h2 := c94.out; rw [w64_in] <;> omega)
    refine CK.seq ?_
    refine CK.seq ?_
    refine CK.reg (ks := []) (.fl 0 (.fl 1 (.fl 2 (.fl 3 (.nil))))) rfl ?_
    refine OKS.rm rfl rfl rfl rfl rfl fi88 ?_
    refine OKS.rm rfl rfl rfl rfl rfl f92 ?_
    refine OKS.r rfl rfl rfl rfl (fun _ => Runs.len rfl rfl Tryz.runUnderlying43) ?_
    refine OKS.r rfl rfl rfl rfl (fun _ => Runs.lss rfl rfl rfl) ?_
    refine OKS.e ?_
    refine thenQ_n ?_
    refine CK.condT (decT c94.out) ?_
    refine CK.skip ?_
    refine thenQ_n ?_
    refine CK.seq ?_
    refine CK.block ?_
    refine CK.seq ?_
    refine CK.reg (ks := []) (.fl 0 (.fl 1 (.nil))) rfl ?_
    refine OKS.ra rfl rfl rfl rfl rfl rfl ?_
    refine OKS.ra rfl rfl rfl rfl rfl rfl ?_
    refine OKS.e ?_
    refine thenQ_n ?_
    refine CK.seq ?_
    refine CK.seq ?_
    refine CK.reg (ks := []) (.fl 0 (.nil)) rfl ?_
    refine OKS.ra rfl rfl rfl rfl rfl rfl ?_
    refine OKS.e ?_
    refine thenQ_n ?_
    refine CK.block ?_
    have q := bnd hx85
    obtain ⟨⟨y111, y112⟩, hf108, hm107⟩ := q
    try dsimp only at hm107
    have q := forR'_le hf108
    obtain ⟨hle109, hf110⟩ := q
    replace hle109 := Hid.mk hle109
    refine CK.forN' (fun k106 (x104, x105) σ_ w_ => ∃ (φ_ : PHeap), σ_ 9 = .int .i64 (↑k106 : Int) ∧ σ_ 0 = .slice pA0 p0.length pc0 ∧ σ_ 5 = .slice A71 l70.length c72 ∧ σ_ 6 = .int .i64 (↑k74 : Int) ∧ σ_ 7 = .int .i64 x104 ∧ σ_ 8 = .int .i64 x105 ∧ PHeap.Le φ89 φ_ ∧ St ⟨w, [], φ⟩ φ_ [.row A71 c72 46 2 (List.flatMap encT_api_Span l70)] w_) hf110 ?_ ?_ ?_
    ·exact ⟨φ89, rfl, f92, f93, fi88, rfl, rfl, (PHeap.Le.refl _), hS91⟩
    ·rintro k106 ⟨x104, x105⟩ xx115 σ113 W114 hk118 ⟨φ120, fi119, f123, f124, f125, f126, f127, le121, hS122⟩ hx116
     try dsimp only at hx116
     have c128 : Hid ((↑k106 : Int) < (↑p0.length : Int)) := Hid.mk (lp_lt0 hk118)
     replace hk118 := Hid.mk hk118
     have hi129 : Hid (w64 ((↑k106 : Int) + 1) = (↑(k106 + 1) : Int)) := Hid.mk (by have h1 := hle109.out; have h2 := c128.out; rw [w64_in] <;> omega)
     refine CK.seq ?_
     refine CK.seq ?_
     refine CK.reg (ks := []) (.fl 0 (.fl 1 (.fl 2 (.fl 3 (.nil))))) rfl ?_
     refine OKS.rm rfl rfl rfl rfl rfl fi119 ?_
     refine OKS.rm rfl rfl rfl rfl rfl f123 ?_
     refine OKS.r rfl rfl rfl rfl (fun _ => Runs.len rfl rfl Tryz.runUnderlying43) ?_
     refine OKS.r rfl rfl rfl rfl (fun _ => Runs.lss rfl rfl rfl) ?_
     refine OKS.e ?_
     refine thenQ_n ?_
     refine CK.condT (decT c128.out) ?_
     refine CK.skip ?_
     refine thenQ_n ?_
     have q := bnd hx116
     obtain ⟨⟨x130, x131⟩, hx133, hm134⟩ := q
     try dsimp only at hm134
     refine CK.cut (fun σ_ w_ => ∃ (φ_ : PHeap), σ_ 0 = .slice pA0 p0.length pc0 ∧ σ_ 5 = .slice A71 l70.length c72 ∧ σ_ 6 = .int .i64 (↑k74 : Int) ∧ σ_ 7 = .int .i64 x130 ∧ σ_ 8 = .int .i64 x131 ∧ σ_ 9 = .int .i64 (↑k106 : Int) ∧ PHeap.Le φ120 φ_ ∧ St ⟨w, [], φ⟩ φ_ [.row A71 c72 46 2 (List.flatMap encT_api_Span l70)] w_) ?_ ?_
     ·refine CK.block ?_
      refine CK.seq ?_
      have q := bnd hx133
      obtain ⟨b135, hx137, hm138⟩ := q
      refine CK.cut (fun σ_ w_ => ∃ (φ_ : PHeap), σ_ 0 = .slice pA0 p0.length pc0 ∧ σ_ 5 = .slice A71 l70.length c72 ∧ σ_ 6 = .int .i64 (↑k74 : Int) ∧ σ_ 7 = .int .i64 x104 ∧ σ_ 8 = .int .i64 x105 ∧ σ_ 9 = .int .i64 (↑k106 : Int) ∧ σ_ 57 = .bool b135 ∧ PHeap.Le φ120 φ_ ∧ St ⟨w, [], φ⟩ φ_ [.row A71 c72 46 2 (List.flatMap encT_api_Span l70)] w_) ?_ ?_
      ·refine CK.anyOrd Tryz.mixed [3, 3, 3, 3, 3, 3, 3, 3, 1, 3, 3, 3, 3, 1, 3, 3] (.fl 0 (.fl 1 (.fl 2 (.fl 3 (.fl 4 (.fl 5 (.fl 6 (.fl 7 (.fl 8 (.fl 9 (.fl 10 (.fl 11 (.fl 12 (.fl 13 (.fl 14 (.fl 15 (.nil))))))))))))))))) (by kernel_rfl) ?_
       have hS139 := hS122.drew
       generalize hw_W140 : ({ W114 with drawn := W114.drawn + 1 } : World) = W140 at hS139 ⊢
       refine OKS.rm rfl rfl rfl rfl rfl fi119 ?_
       refine OKS.rm rfl rfl rfl rfl rfl f125 ?_
       refine OKS.r rfl rfl rfl rfl (fun _ => Runs.neq rfl rfl rfl) ?_
       refine OKS.rm rfl rfl rfl rfl rfl rfl ?_
       by_cases c141 : (↑k106 : Int) = (↑k74 : Int)
       ·have hm142 := hx137; rw [if_pos c141] at hm142; replace c141 := Hid.mk c141
        refine OKS.p rfl rfl rfl (wantedN rfl rfl (decF (fun h => h c141.out)) rfl) ?_
        refine OKS.p rfl rfl rfl (wantedN rfl rfl (decF (fun h => h c141.out)) rfl) ?_
        refine OKS.p rfl rfl rfl (wantedN rfl rfl (decF (fun h => h c141.out)) rfl) ?_
        refine OKS.p rfl rfl rfl (wantedN rfl rfl (decF (fun h => h c141.out)) rfl) ?_
        refine OKS.p rfl rfl rfl (wantedN rfl rfl (decF (fun h => h c141.out)) rfl) ?_
        refine OKS.p rfl rfl rfl (wantedN rfl rfl (decF (fun h => h c141.out)) rfl) ?_
        refine OKS.p rfl rfl rfl (wantedN rfl rfl (decF (fun h => h c141.out)) rfl) ?_
        refine OKS.p rfl rfl rfl (wantedN rfl rfl (decF (fun h => h c141.out)) rfl) ?_
        refine OKS.p rfl rfl rfl (wantedN rfl rfl (decF (fun h => h c141.out)) rfl) ?_
        refine OKS.p rfl rfl rfl (wantedN rfl rfl (decF (fun h => h c141.out)) rfl) ?_
        refine OKS.p rfl rfl rfl (wantedN rfl rfl (decF (fun h => h c141.out)) rfl) ?_
        refine OKS.r rfl rfl rfl rfl (fun _ => Runs.pickF rfl (decF (fun h => h c141.out)) rfl) ?_
        refine OKS.e ?_
        cases hm142
        exact thenQ_n ⟨rfl, ⟨φ120, f123, f124, f125, f126, f127, fi119, rfl, (PHeap.Le.refl _), hS139⟩⟩
       ·have hm144 := hx137; rw [if_neg c141] at hm144; replace c141 := Hid.mk c141
        refine OKS.rm rfl rfl rfl (wantedY rfl rfl (decT c141.out)) rfl f123 ?_
        refine OKS.rm rfl rfl rfl (wantedY rfl rfl (decT c141.out)) rfl fi119 ?_
        have q := bnd hm144
        obtain ⟨x145, h146, hm147⟩ := q
        have h148 := ha0.le le52
        have h149 := h148.le le90
        have h150 := h149.le le121
        have q := h150.el (fun _ => rfl) (idx_get h146)
        obtain ⟨b151, off152, hA153, hC154⟩ := q
        refine OKS.r rfl rfl rfl (wantedY rfl rfl (decT c141.out)) (fun _ => Runs.iaN rfl rfl hA153 rfl Tryz.runUnderlying43 Tryz.sizeOf46 (idx_lt h146)) ?_
        refine OKS.r rfl rfl rfl (wantedY rfl rfl (decT c141.out)) (fun _ => Runs.fa rfl rfl Tryz.runUnderlying46 rfl Tryz.sizeOf3) ?_
        refine OKS.m rfl rfl rfl (wantedY rfl rfl (decT c141.out)) (hS139.ldC (f := 1) hC154 (v := .int .i64 x145.Hi) rfl rfl Tryz.isAgg3 rfl) rfl ?_
        refine OKS.rm rfl rfl rfl (wantedY rfl rfl (decT c141.out)) rfl f123 ?_
        refine OKS.rm rfl rfl rfl (wantedY rfl rfl (decT c141.out)) rfl f125 ?_
        have q := bnd hm147
        obtain ⟨x155, h156, hm157⟩ := q
        have q := h150.el (fun _ => rfl) (idx_get h156)
        obtain ⟨b158, off159, hA160, hC161⟩ := q
        refine OKS.r rfl rfl rfl (wantedY rfl rfl (decT c141.out)) (fun _ => Runs.iaN rfl rfl hA160 rfl Tryz.runUnderlying43 Tryz.sizeOf46 (idx_lt h156)) ?_
        refine OKS.r rfl rfl rfl (wantedY rfl rfl (decT c141.out)) (fun _ => Runs.fa rfl rfl Tryz.runUnderlying46 rfl Tryz.sizeOf3) ?_
        refine OKS.m rfl rfl rfl (wantedY rfl rfl (decT c141.out)) (hS139.ldC (f := 0) hC161 (v := .int .i64 x155.Lo) rfl rfl Tryz.isAgg3 rfl) rfl ?_
        refine OKS.r rfl rfl rfl (wantedY rfl rfl (decT c141.out)) (fun _ => Runs.lss rfl rfl rfl) ?_
        refine OKS.r rfl rfl rfl rfl (fun _ => Runs.pickT rfl (decT c141.out) rfl) ?_
        refine OKS.e ?_
        cases hm157
        exact thenQ_n ⟨rfl, ⟨φ120, f123, f124, f125, f126, f127, fi119, rfl, (PHeap.Le.refl _), hS139⟩⟩
      ·rintro σ163 W164 ⟨φ165, f168, f169, f170, f171, f172, f173, f174, le166, hS167⟩
       by_cases c175 : b135 = true
       ·have hm176 := hm138; rw [if_pos c175] at hm176; replace c175 := Hid.mk c175
        refine CK.condT (f174.trans (congrArg Value.bool c175.out)) ?_
        refine CK.reg (ks := []) (.fl 0 (.fl 1 (.fl 2 (.nil)))) rfl ?_
        refine OKS.rm rfl rfl rfl rfl rfl f171 ?_
        refine OKS.r rfl rfl rfl rfl (fun _ => Runs.addw rfl rfl rfl) ?_
        refine OKS.ra rfl rfl rfl rfl rfl rfl ?_
        refine OKS.e ?_
        refine thenQ_n ?_
        refine CK.seq ?_
        refine CK.anyOrd Tryz.mixed [3, 3, 3, 3, 3, 3, 3, 3, 1, 3, 3, 3, 3, 1, 3, 3] (.fl 0 (.fl 1 (.fl 2 (.fl 3 (.fl 4 (.fl 5 (.fl 6 (.fl 7 (.fl 8 (.fl 9 (.fl 10 (.fl 11 (.fl 12 (.fl 13 (.fl 14 (.fl 15 (.nil))))))))))))))))) (by kernel_rfl) ?_
        have hS177 := hS167.drew
        generalize hw_W178 : ({ W164 with drawn := W164.drawn + 1 } : World) = W178 at hS177 ⊢
        refine OKS.rm rfl rfl rfl rfl rfl f173 ?_
        refine OKS.rm rfl rfl rfl rfl rfl f170 ?_
        refine OKS.r rfl rfl rfl rfl (fun _ => Runs.neq rfl rfl rfl) ?_
        refine OKS.rm rfl rfl rfl rfl rfl rfl ?_
        by_cases c179 : (↑k106 : Int) = (↑k74 : Int)
        ·have hm180 := hm176; rw [if_pos c179] at hm180; replace c179 := Hid.mk c179
         refine OKS.p rfl rfl rfl (wantedN rfl rfl (decF (fun h => h c179.out)) rfl) ?_
         refine OKS.p rfl rfl rfl (wantedN rfl rfl (decF (fun h => h c179.out)) rfl) ?_
         refine OKS.p rfl rfl rfl (wantedN rfl rfl (decF (fun h => h c179.out)) rfl) ?_
         refine OKS.p rfl rfl rfl (wantedN rfl rfl (decF (fun h => h c179.out)) rfl) ?_
         refine OKS.p rfl rfl rfl (wantedN rfl rfl (decF (fun h => h c179.out)) rfl) ?_
         refine OKS.p rfl rfl rfl (wantedN rfl rfl (decF (fun h => h c179.out)) rfl) ?_
         refine OKS.p rfl rfl rfl (wantedN rfl rfl (decF (fun h => h c179.out)) rfl) ?_
         refine OKS.p rfl rfl rfl (wantedN rfl rfl (decF (fun h => h c179.out)) rfl) ?_
         refine OKS.p rfl rfl rfl (wantedN rfl rfl (decF (fun h => h c179.out)) rfl) ?_
         refine OKS.p rfl rfl rfl (wantedN rfl rfl (decF (fun h => h c179.out)) rfl) ?_
         refine OKS.p rfl rfl rfl (wantedN rfl rfl (decF (fun h => h c179.out)) rfl) ?_
         refine OKS.r rfl rfl rfl rfl (fun _ => Runs.pickF rfl (decF (fun h => h c179.out)) rfl) ?_
         refine OKS.e ?_
         refine thenQ_n ?_
         refine CK.condF rfl ?_
         refine CK.skip ?_
         refine blockQ_n ?_
         cases hm180
         exact thenQ_n ⟨rfl, ⟨φ165, f168, f169, f170, rfl, f172, f173, le166, hS177⟩⟩
        ·have hm183 := hm176; rw [if_neg c179] at hm183; replace c179 := Hid.mk c179
         refine OKS.rm rfl rfl rfl (wantedY rfl rfl (decT c179.out)) rfl f168 ?_
         refine OKS.rm rfl rfl rfl (wantedY rfl rfl (decT c179.out)) rfl f173 ?_
         have q := bnd hm183
         obtain ⟨x184, h185, hm186⟩ := q
         have h187 := ha0.le le52
         have h188 := h187.le le90
         have h189 := h188.le le121
         have h190 := h189.le le166
         have q := h190.el (fun _ => rfl) (idx_get h185)
         obtain ⟨b191, off192, hA193, hC194⟩ := q
         refine OKS.r rfl rfl rfl (wantedY rfl rfl (decT c179.out)) (fun _ => Runs.iaN rfl rfl hA193 rfl Tryz.runUnderlying43 Tryz.sizeOf46 (idx_lt h185)) ?_
         refine OKS.r rfl rfl rfl (wantedY rfl rfl (decT c179.out)) (fun _ => Runs.fa rfl rfl Tryz.runUnderlying46 rfl Tryz.sizeOf3) ?_
         refine OKS.m rfl rfl rfl (wantedY rfl rfl (decT c179.out)) (hS177.ldC (f := 0) hC194 (v := .int .i64 x184.Lo) rfl rfl Tryz.isAgg3 rfl) rfl ?_
         refine OKS.rm rfl rfl rfl (wantedY rfl rfl (decT c179.out)) rfl f168 ?_
         refine OKS.rm rfl rfl rfl (wantedY rfl rfl (decT c179.out)) rfl f170 ?_
         have q := bnd hm186
         obtain ⟨x195, h196, hm197⟩ := q
         have q := h190.el (fun _ => rfl) (idx_get h196)
         obtain ⟨b198, off199, hA200, hC201⟩ := q
         refine OKS.r rfl rfl rfl (wantedY rfl rfl (decT c179.out)) (fun _ => Runs.iaN rfl rfl hA200 rfl Tryz.runUnderlying43 Tryz.sizeOf46 (idx_lt h196)) ?_
         refine OKS.r rfl rfl rfl (wantedY rfl rfl (decT c179.out)) (fun _ => Runs.fa rfl rfl Tryz.runUnderlying46 rfl Tryz.sizeOf3) ?_
         refine OKS.m rfl rfl rfl (wantedY rfl rfl (decT c179.out)) (hS177.ldC (f := 1) hC201 (v := .int .i64 x195.Hi) rfl rfl Tryz.isAgg3 rfl) rfl ?_
         refine OKS.r rfl rfl rfl (wantedY rfl rfl (decT c179.out)) (fun _ => Runs.lss rfl rfl rfl) ?_
         refine OKS.r rfl rfl rfl rfl (fun _ => Runs.pickT rfl (decT c179.out) rfl) ?_
         refine OKS.e ?_
         refine thenQ_n ?_
         by_cases c202 : x184.Lo < x195.Hi
         ·have hm203 := hm197; rw [if_pos c202] at hm203; replace c202 := Hid.mk c202
          refine CK.condT (decT c202.out) ?_
          refine CK.reg (ks := []) (.fl 0 (.fl 1 (.fl 2 (.nil)))) rfl ?_
          refine OKS.rm rfl rfl rfl rfl rfl f172 ?_
          refine OKS.r rfl rfl rfl rfl (fun _ => Runs.addw rfl rfl rfl) ?_
          refine OKS.ra rfl rfl rfl rfl rfl rfl ?_
          refine OKS.e ?_
          refine blockQ_n ?_
          cases hm203
          exact thenQ_n ⟨rfl, ⟨φ165, f168, f169, f170, rfl, rfl, f173, le166, hS177⟩⟩
         ·have hm206 := hm197; rw [if_neg c202] at hm206; replace c202 := Hid.mk c202
          refine CK.condF (decF c202.out) ?_
          refine CK.skip ?_
          refine blockQ_n ?_
          cases hm206
          exact thenQ_n ⟨rfl, ⟨φ165, f168, f169, f170, rfl, f172, f173, le166, hS177⟩⟩
       ·have hm209 := hm138; rw [if_neg c175] at hm209; replace c175 := Hid.mk c175
        refine CK.condF (f174.trans (congrArg Value.bool (Bool.eq_false_iff.2 c175.out))) ?_
        refine CK.skip ?_
        refine thenQ_n ?_
        refine CK.seq ?_
        refine CK.anyOrd Tryz.mixed [3, 3, 3, 3, 3, 3, 3, 3, 1, 3, 3, 3, 3, 1, 3, 3] (.fl 0 (.fl 1 (.fl 2 (.fl 3 (.fl 4 (.fl 5 (.fl 6 (.fl 7 (.fl 8 (.fl 9 (.fl 10 (.fl 11 (.fl 12 (.fl 13 (.fl 14 (.fl 15 (.nil))))))))))))))))) (by kernel_rfl) ?_
        have hS210 := hS167.drew
        generalize hw_W211 : ({ W164 with drawn := W164.drawn + 1 } : World) = W211 at hS210 ⊢
        refine OKS.rm rfl rfl rfl rfl rfl f173 ?_
        refine OKS.rm rfl rfl rfl rfl rfl f170 ?_
        refine OKS.r rfl rfl rfl rfl (fun _ => Runs.neq rfl rfl rfl) ?_
        refine OKS.rm rfl rfl rfl rfl rfl rfl ?_
        by_cases c212 : (↑k106 : Int) = (↑k74 : Int)
        ·have hm213 := hm209; rw [if_pos c212] at hm213; replace c212 := Hid.mk c212
         refine OKS.p rfl rfl rfl (wantedN rfl rfl (decF (fun h => h c212.out)) rfl) ?_
         refine OKS.p rfl rfl rfl (wantedN rfl rfl (decF (fun h => h c212.out)) rfl) ?_
         refine OKS.p rfl rfl rfl (wantedN rfl rfl (decF (fun h => h c212.out)) rfl) ?_
         refine OKS.p rfl rfl rfl (wantedN rfl rfl (decF (fun h => h c212.out)) rfl) ?_
         refine OKS.p rfl rfl rfl (wantedN rfl rfl (decF (fun h => h c212.out)) rfl) ?_
         refine OKS.p rfl rfl rfl (wantedN rfl rfl (decF (fun h => h c212.out)) rfl) ?_
         refine OKS.p rfl rfl rfl (wantedN rfl rfl (decF (fun h => h c212.out)) rfl) ?_
         refine OKS.p rfl rfl rfl (wantedN rfl rfl (decF (fun h => h c212.out)) rfl) ?_
         refine OKS.p rfl rfl rfl (wantedN rfl rfl (decF (fun h => h c212.out)) rfl) ?_
         refine OKS.p rfl rfl rfl (wantedN rfl rfl (decF (fun h => h c212.out)) rfl) ?_
         refine OKS.p rfl rfl rfl (wantedN rfl rfl (decF (fun h => h c212.out)) rfl) ?_
         refine OKS.r rfl rfl rfl rfl (fun _ => Runs.pickF rfl (decF (fun h => h c212.out)) rfl) ?_
         refine OKS.e ?_
         refine thenQ_n ?_
         refine CK.condF rfl ?_
         refine CK.skip ?_
         refine blockQ_n ?_
         cases hm213
         exact thenQ_n ⟨rfl, ⟨φ165, f168, f169, f170, f171, f172, f173, le166, hS210⟩⟩
        ·have hm216 := hm209; rw [if_neg c212] at hm216; replace c212 := Hid.mk c212
         refine OKS.rm rfl rfl rfl (wantedY rfl rfl (decT c212.out)) rfl f168 ?_
         refine OKS.rm rfl rfl rfl (wantedY rfl rfl (decT c212.out)) rfl f173 ?_
         have q := bnd hm216
         obtain ⟨x217, h218, hm219⟩ := q
         have h220 := ha0.le le52
         have h221 := h220.le le90
         have h222 := h221.le le121
         have h223 := h222.le le166
         have q := h223.el (fun _ => rfl) (idx_get h218)
         obtain ⟨b224, off225, hA226, hC227⟩ := q
         refine OKS.r rfl rfl rfl (wantedY rfl rfl (decT c212.out)) (fun _ => Runs.iaN rfl rfl hA226 rfl Tryz.runUnderlying43 Tryz.sizeOf46 (idx_lt h218)) ?_
         refine OKS.r rfl rfl rfl (wantedY rfl rfl (decT c212.out)) (fun _ => Runs.fa rfl rfl Tryz.runUnderlying46 rfl Tryz.sizeOf3) ?_
         refine OKS.m rfl rfl rfl (wantedY rfl rfl (decT c212.out)) (hS210.ldC (f := 0) hC227 (v := .int .i64 x217.Lo) rfl rfl Tryz.isAgg3 rfl) rfl ?_
         refine OKS.rm rfl rfl rfl (wantedY rfl rfl (decT c212.out)) rfl f168 ?_
         refine OKS.rm rfl rfl rfl (wantedY rfl rfl (decT c212.out)) rfl f170 ?_
         have q := bnd hm219
         obtain ⟨x228, h229, hm230⟩ := q
         have q := h223.el (fun _ => rfl) (idx_get h229)
         obtain ⟨b231, off232, hA233, hC234⟩ := q
         refine OKS.r rfl rfl rfl (wantedY rfl rfl (decT c212.out)) (fun _ => Runs.iaN rfl rfl hA233 rfl Tryz.runUnderlying43 Tryz.sizeOf46 (idx_lt h229)) ?_
         refine OKS.r rfl rfl rfl (wantedY rfl rfl (decT c212.out)) (fun _ => Runs.fa rfl rfl Tryz.runUnderlying46 rfl Tryz.sizeOf3) ?_
         refine OKS.m rfl rfl rfl (wantedY rfl rfl (decT c212.out)) (hS210.ldC (f := 1) hC234 (v := .int .i64 x228.Hi) rfl rfl Tryz.isAgg3 rfl) rfl ?_
         refine OKS.r rfl rfl rfl (wantedY rfl rfl (decT c212.out)) (fun _ => Runs.lss rfl rfl rfl) ?_
         refine OKS.r rfl rfl rfl rfl (fun _ => Runs.pickT rfl (decT c212.out) rfl) ?_
         refine OKS.e ?_
         refine thenQ_n ?_
         by_cases c235 : x217.Lo < x228.Hi
         ·have hm236 := hm230; rw [if_pos c235] at hm236; replace c235 := Hid.mk c235
          refine CK.condT (decT c235.out) ?_
          refine CK.reg (ks := []) (.fl 0 (.fl 1 (.fl 2 (.nil)))) rfl ?_
          refine OKS.rm rfl rfl rfl rfl rfl f172 ?_
          refine OKS.r rfl rfl rfl rfl (fun _ => Runs.addw rfl rfl rfl) ?_
          refine OKS.ra rfl rfl rfl rfl rfl rfl ?_
          refine OKS.e ?_
          refine blockQ_n ?_
          cases hm236
          exact thenQ_n ⟨rfl, ⟨φ165, f168, f169, f170, f171, rfl, f173, le166, hS210⟩⟩
         ·have hm239 := hm230; rw [if_neg c235] at hm239; replace c235 := Hid.mk c235
          refine CK.condF (decF c235.out) ?_
          refine CK.skip ?_
          refine blockQ_n ?_
          cases hm239
          exact thenQ_n ⟨rfl, ⟨φ165, f168, f169, f170, f171, f172, f173, le166, hS210⟩⟩
     ·rintro σ242 W243 ⟨φ244, f247, f248, f249, f250, f251, f252, le245, hS246⟩
      refine CK.reg (ks := []) (.fl 0 (.fl 1 (.fl 2 (.nil)))) rfl ?_
      refine OKS.rm rfl rfl rfl rfl rfl f252 ?_
      refine OKS.r rfl rfl rfl rfl (fun _ => Runs.to (Runs.addw rfl rfl rfl) (congrArg (Value.int .i64) hi129.out)) ?_
      refine OKS.ra rfl rfl rfl rfl rfl rfl ?_
      refine OKS.e ?_
      cases hm134
      exact thenQ_n ⟨rfl, ⟨φ244, rfl, f247, f248, f249, f250, f251, (le121.trans le245), hS246⟩⟩
    ·rintro σ255 W256 ⟨φ261, fi258, f264, f265, f266, f267, f268, le262, hS263⟩
     have c269 : Hid (¬ ((↑(((↑p0.length : Int) : Int) - 0).toNat : Int) < (↑p0.length : Int))) := Hid.mk (lp_end0)
     refine CK.seq ?_
     refine CK.seq ?_
     refine CK.reg (ks := []) (.fl 0 (.fl 1 (.fl 2 (.fl 3 (.nil))))) rfl ?_
     refine OKS.rm rfl rfl rfl rfl rfl fi258 ?_
     refine OKS.rm rfl rfl rfl rfl rfl f264 ?_
     refine OKS.r rfl rfl rfl rfl (fun _ => Runs.len rfl rfl Tryz.runUnderlying43) ?_
     refine OKS.r rfl rfl rfl rfl (fun _ => Runs.lss rfl rfl rfl) ?_
     refine OKS.e ?_
     refine thenQ_n ?_
     refine CK.condF (decF c269.out) ?_
     refine CK.exit ?_
     refine thenQ_e ?_
     refine thenQ_e ?_
     refine blockQ_h ?_
     refine thenQ_n ?_
     refine CK.reg (ks := []) (.fl 0 (.fl 1 (.fl 2 (.fl 3 (.fl 4 (.fl 5 (.fx 6 (.fx 7 (.fl 8 (.nil)) .stop) .stop))))))) rfl ?_
     refine OKS.rm rfl rfl rfl rfl rfl f265 ?_
     refine OKS.rm rfl rfl rfl rfl rfl f267 ?_
     refine OKS.r rfl rfl rfl rfl (fun _ => Runs.addw rfl rfl rfl) ?_
     refine OKS.rm rfl rfl rfl rfl rfl f268 ?_
     refine OKS.r rfl rfl rfl rfl (fun _ => Runs.addw rfl rfl rfl) ?_
     refine OKS.r rfl rfl rfl rfl (fun _ => Runs.build (pv := [(0, .int .i64 (w64 (1 + y111))), (1, .int .i64 (w64 (1 + y112)))]) (z := [.int .i64 0, .int .i64 0]) (cs := [.int .i64 (w64 (1 + y111)), .int .i64 (w64 (1 + y112))]) rfl (mapcons2 rfl (mapcons2 rfl mapnil2)) Tryz.zeroValue46 places46 rfl rfl) ?_
     refine OKS.buildSlice (pv := [(0, .agg #[.int .i64 (w64 (1 + y111)), .int .i64 (w64 (1 + y112))])]) (zs := [.int .i64 0, .int .i64 0]) (cs := [.int .i64 (w64 (1 + y111)), .int .i64 (w64 (1 + y112))]) rfl rfl rfl rfl rfl (mapcons2 rfl mapnil2) Tryz.runUnderlying43 Tryz.sizeOf46 Tryz.zeroValue46 rfl rfl rfl rfl rfl hS263 ?_
     intro W270 b271 hS272
     have hS274 : St ⟨w, [], φ⟩ φ261 [.row (some ⟨b271, 0, none⟩) 1 46 2 (List.flatMap encT_api_Span [(⟨w64 (1 + y111), w64 (1 + y112)⟩ : T_api_Span)]), .row A71 c72 46 2 (List.flatMap encT_api_Span l70)] W270 := hS272
     have q := bnd hm107
     obtain ⟨x275, h276, hm277⟩ := q
     refine OKS.append (j := 1) (enc := encT_api_Span) (xs := l70) (ys := [(⟨w64 (1 + y111), w64 (1 + y112)⟩ : T_api_Span)]) (zs := x275) rfl rfl rfl rfl rfl Tryz.underlying43 info46 rfl rfl rfl rfl rfl rfl hS274 rfl rfl rfl (hS274.srcR (j := 0) rfl (by decide) (flatMap_len (f := encT_api_Span) (sz := 2) (fun _ => rfl) [(⟨w64 (1 + y111), w64 (1 + y112)⟩ : T_api_Span)])) (fun _ => rfl) (fun _ => rfl) h276 rfl ?_
     intro A278 c279 W280 hS281
     have hS282 : St ⟨w, [], φ⟩ φ261 [.row (some ⟨b271, 0, none⟩) 1 46 2 (List.flatMap encT_api_Span [(⟨w64 (1 + y111), w64 (1 + y112)⟩ : T_api_Span)]), .row A278 c279 46 2 (List.flatMap encT_api_Span x275)] W280 := hS281
     refine OKS.ra rfl rfl rfl rfl rfl rfl ?_
     refine OKS.e ?_
     refine blockQ_n ?_
     refine thenQ_n ?_
     refine CK.reg (ks := []) (.fl 0 (.fl 1 (.fl 2 (.nil)))) rfl ?_
     refine OKS.rm rfl rfl rfl rfl rfl f266 ?_
     refine OKS.r rfl rfl rfl rfl (fun _ => Runs.to (Runs.addw rfl rfl rfl) (congrArg (Value.int .i64) hi95.out)) ?_
     refine OKS.ra rfl rfl rfl rfl rfl rfl ?_
     refine OKS.e ?_
     cases hm277
     exact thenQ_n ⟨rfl, ⟨φ261, A278, c279, rfl, f264, rfl, (le90.trans le262), (hS282.pick [1] _ (by decide) rfl)⟩⟩
   ·rintro σ286 W287 ⟨φ295, A293, c294, fi289, f298, f299, le296, hS297⟩
    have c300 : Hid (¬ ((↑(((↑p0.length : Int) : Int) - 0).toNat : Int) < (↑p0.length : Int))) := Hid.mk (lp_end0)
    refine CK.seq ?_
    refine CK.seq ?_
    refine CK.reg (ks := []) (.fl 0 (.fl 1 (.fl 2 (.fl 3 (.nil))))) rfl ?_
    refine OKS.rm rfl rfl rfl rfl rfl fi289 ?_
    refine OKS.rm rfl rfl rfl rfl rfl f298 ?_
    refine OKS.r rfl rfl rfl rfl (fun _ => Runs.len rfl rfl Tryz.runUnderlying43) ?_
    refine OKS.r rfl rfl rfl rfl (fun _ => Runs.lss rfl rfl rfl) ?_
    refine OKS.e ?_
    refine thenQ_n ?_
    refine CK.condF (decF c300.out) ?_
    refine CK.exit ?_
    refine thenQ_e ?_
    refine thenQ_e ?_
    refine blockQ_h ?_
    refine thenQ_n ?_
    refine CK.seq ?_
    refine CK.reg (ks := []) (.fl 0 (.fl 1 (.fl 2 (.nil)))) rfl ?_
    refine OKS.rm rfl rfl rfl rfl rfl f299 ?_
    refine OKS.ra rfl rfl rfl rfl rfl rfl ?_
    refine OKS.ra rfl rfl rfl rfl rfl rfl ?_
    refine OKS.e ?_
    refine thenQ_n ?_
    refine CK.ret ?_
    cases hm75
    exact ⟨rfl, _, (res2 rfl rfl), φ295, _, hS297, A293, c294, rfl, rfl⟩
end Go.Proofs.YtfdnbaahdjlapaaGreat
