/- Walks, printed by a program: each function does what its model says. -/
import Derived.Test.YtnllmignponhdaaEnc
namespace Go.Proofs.Ytnllmignponhdaa
open Go.KL
theorem w_klisterlaw03_awake (w : World) (φ : PHeap) (hS : St ⟨w, [], φ⟩ φ [] w) {r : Bool} (hm : m_klisterlaw03_awake = some r) : Gv Try.prog 24 [] w (RetS w [] φ (fun φ_ L_ v => v = .bool r ∧ L_ = [])) := by
  cases hm
  refine (xr24 w).mono ?_
  rintro v w' ⟨rfl, k⟩
  exact ⟨φ, [], hS.grow k, rfl, rfl⟩

set_option maxHeartbeats 4000000 in
theorem w_klisterkit_Clone_target_Shot (p0 : List T_target_Shot) (pA0 : Option Addr) (pc0 : Nat) (w : World) (φ : PHeap) (hS : St ⟨w, [], φ⟩ φ [] w) (ha0 : Sl φ 2 pA0 pc0 p0.length (List.flatMap encT_target_Shot p0)) {r : (List T_target_Shot)} (hm : m_klisterkit_Clone_target_Shot p0 = some r) : Gv Try.prog 31 [.slice pA0 p0.length pc0] w (RetS w [] φ (fun φ_ L_ v => ∃ (A0 : Option Addr) (c0 : Nat), v = .slice A0 r.length c0 ∧ L_ = [.row A0 c0 59 2 (List.flatMap encT_target_Shot r)])) := by
  unfold m_klisterkit_Clone_target_Shot at hm
  refine Gv.of Try.func31 rfl Try.ntmps31 Try.results31 rfl ?_
  refine CK.seq ?_
  refine CK.reg (ks := []) (.fl 0 (.nil)) rfl ?_
  refine OKS.r rfl rfl rfl rfl (fun _ => Runs.as rfl rfl) ?_
  refine OKS.e ?_
  refine thenQ_n ?_
  refine CK.seq ?_
  refine CK.reg (ks := []) (.fl 0 (.fx 1 (.fl 2 (.nil)) .stop)) rfl ?_
  refine OKS.r rfl rfl rfl rfl (fun _ => Runs.mv rfl rfl) ?_
  have hS1 := hS.nilrow 59 2
  have hS3 : St ⟨w, [], φ⟩ φ [.row none 0 59 2 (List.flatMap encT_target_Shot ([] : List T_target_Shot))] w := hS1
  obtain ⟨x4, h5, hm6⟩ := bnd hm
  refine OKS.append (j := 0) (enc := encT_target_Shot) (xs := ([] : List T_target_Shot)) (ys := p0) (zs := x4) rfl rfl rfl rfl rfl Try.underlying56 info59 rfl rfl rfl rfl rfl rfl hS3 rfl rfl rfl (hS3.srcS ha0) (fun _ => rfl) (fun _ => rfl) h5 rfl ?_
  intro A7 c8 W9 hS10
  have hS11 : St ⟨w, [], φ⟩ φ [.row A7 c8 59 2 (List.flatMap encT_target_Shot x4)] W9 := hS10
  refine OKS.r rfl rfl rfl rfl (fun _ => Runs.as rfl rfl) ?_
  refine OKS.e ?_
  refine thenQ_n ?_
  refine CK.ret ?_
  cases hm6
  exact ⟨rfl, _, (res1 rfl), φ, _, hS11, A7, c8, rfl, rfl⟩

set_option maxHeartbeats 4000000 in
theorem w_target_all_target_Shot_1 (p0 : T_target_Shot) (p1 : (T_target_Shot → Option Bool)) (pb1 : Nat) (pv1 : Value) (w : World) (φ : PHeap) (hS : St ⟨w, [], φ⟩ φ [] w) (ha0 : Cl φ pb1 0 [pv1]) (ha1 : FnOK Try.prog φ pv1 ar153 rr153 p1) {r : Bool} (hm : m_target_all_target_Shot_1 p0 p1 = some r) : Gv Try.prog 131 [.agg #[.int .i64 p0.X, .int .i64 p0.Y], .pointer (some ⟨pb1, 0, none⟩)] w (RetS w [] φ (fun φ_ L_ v => v = .bool r ∧ L_ = [])) := by
  unfold m_target_all_target_Shot_1 at hm
  refine Gv.of Try.func131 rfl Try.ntmps131 Try.results131 rfl ?_
  refine CK.seq ?_
  refine CK.reg (ks := []) (.fx 0 (.fl 1 (.nil)) .stop) rfl ?_
  refine OKS.box (cs := [.int .i64 p0.X, .int .i64 p0.Y]) rfl rfl rfl rfl rfl rfl (by rfl) hS ?_
  intro W1 b2 hS3
  refine OKS.r rfl rfl rfl rfl (fun _ => Runs.as rfl rfl) ?_
  refine OKS.e ?_
  refine thenQ_n ?_
  refine CK.seq ?_
  refine CK.reg (ks := []) (.fl 0 (.fl 1 (.fx 2 (.fl 3 (.fl 4 (.nil))) .stop))) rfl ?_
  refine OKS.m rfl rfl rfl rfl (hS3.ldC (f := 0) ha0 (v := pv1) rfl rfl Try.isAgg153 rfl) rfl ?_
  refine OKS.m rfl rfl rfl rfl (hS3.ldBA (j := 0) rfl rfl rfl Try.isAgg59 Try.sizeOf59 (vs := [.int .i64 p0.X, .int .i64 p0.Y]) rfl rfl) rfl ?_
  obtain ⟨x5, h6, hm7⟩ := bnd hm
  refine OKS.callV (a := p0) rfl rfl rfl rfl rfl rfl (mapcons rfl mapnil) hS3 ha1 rfl h6 ?_
  rintro φ8 L9 v10 W11 le12 hS13 ⟨rfl, rfl⟩
  have hS14 : St ⟨w, [], φ⟩ φ8 [.blk b2 59 [.int .i64 p0.X, .int .i64 p0.Y]] W11 := hS13
  refine OKS.r rfl rfl rfl rfl (fun _ => Runs.notT rfl rfl) ?_
  refine OKS.r rfl rfl rfl rfl (fun _ => Runs.as rfl rfl) ?_
  refine OKS.e ?_
  refine thenQ_n ?_
  refine CK.ret ?_
  cases hm7
  exact ⟨rfl, _, (res1 rfl), φ8, _, (hS14.pick [] _ (by decide) rfl), rfl, rfl⟩

set_option maxHeartbeats 4000000 in
theorem w_slices_IndexFunc_target_Shot_target_Shot (p0 : List T_target_Shot) (pA0 : Option Addr) (pc0 : Nat) (p1 : (T_target_Shot → Option Bool)) (pv1 : Value) (w : World) (φ : PHeap) (hS : St ⟨w, [], φ⟩ φ [] w) (ha0 : Sl φ 2 pA0 pc0 p0.length (List.flatMap encT_target_Shot p0)) (ha1 : FnOK Try.prog φ pv1 ar153 rr153 p1) {r : Int} (hm : m_slices_IndexFunc_target_Shot_target_Shot p0 p1 = some r) : Gv Try.prog 146 [.slice pA0 p0.length pc0, pv1] w (RetS w [] φ (fun φ_ L_ v => v = .int .i64 r ∧ L_ = [])) := by
  unfold m_slices_IndexFunc_target_Shot_target_Shot at hm
  refine Gv.of Try.func146 rfl Try.ntmps146 Try.results146 rfl ?_
  refine CK.seq ?_
  refine CK.reg (ks := []) (.fl 0 (.nil)) rfl ?_
  refine OKS.r rfl rfl rfl rfl (fun _ => Runs.as rfl rfl) ?_
  refine OKS.e ?_
  refine thenQ_n ?_
  refine CK.seq ?_
  refine CK.seq ?_
  refine CK.reg (ks := []) (.fl 0 (.fl 1 (.fl 2 (.nil)))) rfl ?_
  refine OKS.r rfl rfl rfl rfl (fun _ => Runs.mv rfl rfl) ?_
  refine OKS.r rfl rfl rfl rfl (fun _ => Runs.len rfl rfl Try.runUnderlying56) ?_
  refine OKS.r rfl rfl rfl rfl (fun _ => Runs.mv rfl rfl) ?_
  refine OKS.e ?_
  refine thenQ_n ?_
  refine CK.block ?_
  obtain ⟨r3, hX4⟩ := jn_some hm
  obtain ⟨hle5, hf6⟩ := forR_le hX4
  replace hle5 := Hid.mk hle5
  refine CK.forN (fun k2 _ σ_ w_ => ∃ (φ_ : PHeap), σ_ 8 = .int .i64 (↑k2 : Int) ∧ σ_ 0 = .slice pA0 p0.length pc0 ∧ σ_ 1 = pv1 ∧ σ_ 7 = .int .i64 (↑p0.length : Int) ∧ PHeap.Le φ φ_ ∧ St ⟨w, [], φ⟩ φ_ [] w_) hf6 ?_ ?_ ?_
  · exact ⟨φ, rfl, rfl, rfl, rfl, (PHeap.Le.refl _), hS⟩
  · rintro k2 ⟨⟩ xx9 σ7 W8 hk12 ⟨φ14, fi13, f17, f18, f19, le15, hS16⟩ hx10 hb11
    try dsimp only at hx10
    have c20 : Hid ((↑k2 : Int) < (↑p0.length : Int)) := Hid.mk (lp_lt0 hk12)
    replace hk12 := Hid.mk hk12
    have hi21 : Hid (w64 ((↑k2 : Int) + 1) = (↑(k2 + 1) : Int)) := Hid.mk (by have h1 := hle5.out; have h2 := c20.out; rw [w64_in] <;> omega)
    refine CK.seq ?_
    refine CK.reg (ks := []) (.fl 0 (.nil)) rfl ?_
    refine OKS.r rfl rfl rfl rfl (fun _ => Runs.lss rfl fi13 f19) ?_
    refine OKS.e ?_
    refine thenQ_n ?_
    refine CK.seq ?_
    refine CK.condT (decT c20.out) ?_
    refine CK.skip ?_
    refine thenQ_n ?_
    refine CK.seq ?_
    refine CK.block ?_
    refine CK.seq ?_
    refine CK.reg (ks := []) (.fl 0 (.fl 1 (.nil))) rfl ?_
    refine OKS.r rfl rfl rfl rfl (fun _ => Runs.mv rfl fi13) ?_
    refine OKS.r rfl rfl rfl rfl (fun _ => Runs.as rfl rfl) ?_
    refine OKS.e ?_
    refine thenQ_n ?_
    refine CK.seq ?_
    refine CK.reg (ks := []) (.fl 0 (.fl 1 (.fl 2 (.fl 3 (.fl 4 (.fx 5 (.nil) .stop)))))) rfl ?_
    refine OKS.r rfl rfl rfl rfl (fun _ => Runs.mv rfl f18) ?_
    refine OKS.r rfl rfl rfl rfl (fun _ => Runs.mv rfl f17) ?_
    refine OKS.r rfl rfl rfl rfl (fun _ => Runs.mv rfl rfl) ?_
    obtain ⟨x22, h23, hm24⟩ := bnd hx10
    have h25 := ha0.le le15
    obtain ⟨b26, off27, hA28, hC29⟩ := h25.el (fun _ => rfl) (idx_get h23)
    refine OKS.r rfl rfl rfl rfl (fun _ => Runs.iaN rfl rfl hA28 rfl Try.runUnderlying56 Try.sizeOf59 (idx_lt h23)) ?_
    refine OKS.m rfl rfl rfl rfl (hS16.ldCA (f := 0) hC29 rfl rfl Try.isAgg59 Try.sizeOf59 (us := [.int .i64 x22.X, .int .i64 x22.Y]) rfl rfl) rfl ?_
    obtain ⟨x30, h31, hm32⟩ := bnd hm24
    have h39 := ha1.le le15
    refine OKS.callV (a := x22) rfl rfl rfl rfl rfl rfl (mapcons rfl mapnil) hS16 h39 rfl h31 ?_
    rintro φ33 L34 v35 W36 le37 hS38 ⟨rfl, rfl⟩
    have hS40 : St ⟨w, [], φ⟩ φ33 [] W36 := hS38
    refine OKS.e ?_
    refine thenQ_n ?_
    by_cases c41 : x30 = true
    · have hm42 := hm32; rw [if_pos c41] at hm42; replace c41 := Hid.mk c41
      refine CK.condT (congrArg Value.bool c41.out) ?_
      refine CK.seq ?_
      refine CK.reg (ks := []) (.fl 0 (.fl 1 (.nil))) rfl ?_
      refine OKS.r rfl rfl rfl rfl (fun _ => Runs.mv rfl rfl) ?_
      refine OKS.r rfl rfl rfl rfl (fun _ => Runs.as rfl rfl) ?_
      refine OKS.e ?_
      refine thenQ_n ?_
      refine CK.ret ?_
      refine blockQ_r ?_
      refine thenQ_r ?_
      obtain ⟨v43, hm44, e45⟩ := esc_spec hm42
      obtain rfl := jn_inr hm hX4 (hb11 v43 e45)
      refine thenQ_r ?_
      refine blockQ_r ?_
      refine thenQ_r ?_
      cases hm44
      exact ⟨rfl, _, (res1 rfl), φ33, _, hS40, rfl, rfl⟩
    · have hm46 := hm32; rw [if_neg c41] at hm46; replace c41 := Hid.mk c41
      refine CK.condF (congrArg Value.bool (Bool.eq_false_iff.2 c41.out)) ?_
      refine CK.skip ?_
      refine blockQ_n ?_
      refine thenQ_n ?_
      refine CK.reg (ks := []) (.fl 0 (.fl 1 (.nil))) rfl ?_
      refine OKS.r rfl rfl rfl rfl (fun _ => Runs.to (Runs.addw rfl fi13 rfl) (congrArg (Value.int .i64) hi21.out)) ?_
      refine OKS.r rfl rfl rfl rfl (fun _ => Runs.mv rfl rfl) ?_
      refine OKS.e ?_
      obtain rfl := Option.some.inj hm46
      exact thenQ_n ⟨rfl, _, rfl, ⟨φ33, rfl, f17, f18, f19, (le15.trans le37), hS40⟩⟩
  · rintro ⟨⟩ σ47 W48 ⟨φ51, fi50, f54, f55, f56, le52, hS53⟩ hb49
    have hm57 := jn_inl hm hX4 hb49
    try dsimp only at hm57
    have c58 : Hid (¬ ((↑(((↑p0.length : Int) : Int) - 0).toNat : Int) < (↑p0.length : Int))) := Hid.mk (lp_end0)
    refine CK.seq ?_
    refine CK.reg (ks := []) (.fl 0 (.nil)) rfl ?_
    refine OKS.r rfl rfl rfl rfl (fun _ => Runs.lss rfl fi50 f56) ?_
    refine OKS.e ?_
    refine thenQ_n ?_
    refine CK.seq ?_
    refine CK.condF (decF c58.out) ?_
    refine CK.exit ?_
    refine thenQ_e ?_
    refine thenQ_e ?_
    refine blockQ_h ?_
    refine thenQ_n ?_
    refine CK.seq ?_
    refine CK.reg (ks := []) (.fl 0 (.nil)) rfl ?_
    refine OKS.r rfl rfl rfl rfl (fun _ => Runs.as rfl rfl) ?_
    refine OKS.e ?_
    refine thenQ_n ?_
    refine CK.ret ?_
    cases hm57
    exact ⟨rfl, _, (res1 rfl), φ51, _, hS53, rfl, rfl⟩

set_option maxHeartbeats 4000000 in
theorem w_slices_ContainsFunc_target_Shot_target_Shot (p0 : List T_target_Shot) (pA0 : Option Addr) (pc0 : Nat) (p1 : (T_target_Shot → Option Bool)) (pv1 : Value) (w : World) (φ : PHeap) (hS : St ⟨w, [], φ⟩ φ [] w) (ha0 : Sl φ 2 pA0 pc0 p0.length (List.flatMap encT_target_Shot p0)) (ha1 : FnOK Try.prog φ pv1 ar153 rr153 p1) {r : Bool} (hm : m_slices_ContainsFunc_target_Shot_target_Shot p0 p1 = some r) : Gv Try.prog 130 [.slice pA0 p0.length pc0, pv1] w (RetS w [] φ (fun φ_ L_ v => v = .bool r ∧ L_ = [])) := by
  unfold m_slices_ContainsFunc_target_Shot_target_Shot at hm
  refine Gv.of Try.func130 rfl Try.ntmps130 Try.results130 rfl ?_
  refine CK.seq ?_
  refine CK.reg (ks := []) (.fl 0 (.nil)) rfl ?_
  refine OKS.r rfl rfl rfl rfl (fun _ => Runs.as rfl rfl) ?_
  refine OKS.e ?_
  refine thenQ_n ?_
  refine CK.seq ?_
  refine CK.reg (ks := []) (.fl 0 (.fl 1 (.fx 2 (.fl 3 (.fl 4 (.nil))) .stop))) rfl ?_
  refine OKS.r rfl rfl rfl rfl (fun _ => Runs.mv rfl rfl) ?_
  refine OKS.r rfl rfl rfl rfl (fun _ => Runs.mv rfl rfl) ?_
  obtain ⟨x1, h2, hm3⟩ := bnd hm
  refine OKS.callH 0 rfl rfl rfl rfl (Enters.mk rfl rfl Try.call146 (mapcons rfl (mapcons rfl mapnil)) rfl) hS (fun hs => w_slices_IndexFunc_target_Shot_target_Shot p0 pA0 pc0 p1 pv1 w φ hs ha0 ha1 h2) (.inr rfl) ?_
  rintro φ4 L5 v6 W7 le8 hS9 ⟨rfl, rfl⟩
  have hS10 : St ⟨w, [], φ⟩ φ4 [] W7 := hS9
  refine OKS.r rfl rfl rfl rfl (fun _ => Runs.geq rfl rfl rfl) ?_
  refine OKS.r rfl rfl rfl rfl (fun _ => Runs.as rfl rfl) ?_
  refine OKS.e ?_
  refine thenQ_n ?_
  refine CK.ret ?_
  cases hm3
  exact ⟨rfl, _, (res1 rfl), φ4, _, hS10, rfl, rfl⟩

set_option maxHeartbeats 4000000 in
theorem w_target_all_target_Shot (p0 : List T_target_Shot) (pA0 : Option Addr) (pc0 : Nat) (p1 : (T_target_Shot → Option Bool)) (pv1 : Value) (w : World) (φ : PHeap) (hS : St ⟨w, [], φ⟩ φ [] w) (ha0 : Sl φ 2 pA0 pc0 p0.length (List.flatMap encT_target_Shot p0)) (ha1 : FnOK Try.prog φ pv1 ar153 rr153 p1) {r : Bool} (hm : m_target_all_target_Shot p0 p1 = some r) : Gv Try.prog 86 [.slice pA0 p0.length pc0, pv1] w (RetS w [] φ (fun φ_ L_ v => v = .bool r ∧ L_ = [])) := by
  unfold m_target_all_target_Shot at hm
  refine Gv.of Try.func86 rfl Try.ntmps86 Try.results86 rfl ?_
  refine CK.seq ?_
  refine CK.reg (ks := []) (.fx 0 (.fl 1 (.nil)) .stop) rfl ?_
  refine OKS.box (cs := [pv1]) rfl rfl rfl rfl rfl rfl (FnOK.cells ha1) hS ?_
  intro W1 b2 hS3
  obtain ⟨φ5, le6, hC7, hS8⟩ := hS3.freeze (k := 0) rfl
  replace hC7 := Cl.of hC7
  have hS9 : St ⟨w, [], φ⟩ φ5 [] W1 := hS8
  replace hC7 : Cl φ5 b2 0 [pv1] := hC7
  refine OKS.r rfl rfl rfl rfl (fun _ => Runs.as rfl rfl) ?_
  refine OKS.e ?_
  refine thenQ_n ?_
  refine CK.seq ?_
  refine CK.reg (ks := []) (.fl 0 (.fl 1 (.fx 2 (.fl 3 (.fl 4 (.nil))) .stop))) rfl ?_
  refine OKS.r rfl rfl rfl rfl (fun _ => Runs.mv rfl rfl) ?_
  refine OKS.r rfl rfl rfl rfl (fun _ => Runs.mkf rfl mapnil (mapcons rfl mapnil)) ?_
  have h10 := ha0.le le6
  have h11 := ha1.le le6
  have hF12 : FnOK Try.prog φ5 (.func (.func 131) #[] #[.pointer (some ⟨b2, 0, none⟩)]) ar153 rr153 (fun x => m_target_all_target_Shot_1 x p1) := ⟨131, [], [.pointer (some ⟨b2, 0, none⟩)], rfl, Try.call131, fun φ1 w1 x y vs le hs ha hm => by obtain rfl := ha; exact w_target_all_target_Shot_1 x p1 b2 pv1 w1 φ1 hs (hC7.le le) (h11.le le) hm⟩
  obtain ⟨x13, h14, hm15⟩ := bnd hm
  refine OKS.callH 0 rfl rfl rfl rfl (Enters.mk rfl rfl Try.call130 (mapcons rfl (mapcons rfl mapnil)) rfl) hS9 (fun hs => w_slices_ContainsFunc_target_Shot_target_Shot p0 pA0 pc0 (fun x => m_target_all_target_Shot_1 x p1) (.func (.func 131) #[] #[.pointer (some ⟨b2, 0, none⟩)]) W1 φ5 hs h10 hF12 h14) (.inr rfl) ?_
  rintro φ16 L17 v18 W19 le20 hS21 ⟨rfl, rfl⟩
  have hS22 : St ⟨w, [], φ⟩ φ16 [] W19 := hS21
  refine OKS.r rfl rfl rfl rfl (fun _ => Runs.notT rfl rfl) ?_
  refine OKS.r rfl rfl rfl rfl (fun _ => Runs.as rfl rfl) ?_
  refine OKS.e ?_
  refine thenQ_n ?_
  refine CK.ret ?_
  cases hm15
  exact ⟨rfl, _, (res1 rfl), φ16, _, hS22, rfl, rfl⟩

set_option maxHeartbeats 4000000 in
theorem w_target_within (p0 : Int) (p1 : Int) (p2 : Int) (w : World) (φ : PHeap) (hS : St ⟨w, [], φ⟩ φ [] w)  {r : Bool} (hm : m_target_within p0 p1 p2 = some r) : Gv Try.prog 82 [.int .i64 p0, .int .i64 p1, .int .i64 p2] w (RetS w [] φ (fun φ_ L_ v => v = .bool r ∧ L_ = [])) := by
  unfold m_target_within at hm
  refine Gv.of Try.func82 rfl Try.ntmps82 Try.results82 rfl ?_
  refine CK.seq ?_
  refine CK.reg (ks := []) (.fl 0 (.nil)) rfl ?_
  refine OKS.r rfl rfl rfl rfl (fun _ => Runs.as rfl rfl) ?_
  refine OKS.e ?_
  refine thenQ_n ?_
  refine CK.seq ?_
  refine CK.reg (ks := []) (.fl 0 (.fl 1 (.fl 2 (.fl 3 (.fl 4 (.fl 5 (.fl 6 (.fl 7 (.fl 8 (.nil)))))))))) rfl ?_
  refine OKS.r rfl rfl rfl rfl (fun _ => Runs.mv rfl rfl) ?_
  refine OKS.r rfl rfl rfl rfl (fun _ => Runs.mv rfl rfl) ?_
  refine OKS.r rfl rfl rfl rfl (fun _ => Runs.geq rfl rfl rfl) ?_
  refine OKS.r rfl rfl rfl rfl (fun _ => Runs.mv rfl rfl) ?_
  by_cases c1 : p1 ≤ p0
  · have hm2 := hm; rw [if_pos c1] at hm2; replace c1 := Hid.mk c1
    refine OKS.r rfl rfl rfl (wantedY rfl rfl (decT c1.out)) (fun _ => Runs.mv rfl rfl) ?_
    refine OKS.r rfl rfl rfl (wantedY rfl rfl (decT c1.out)) (fun _ => Runs.mv rfl rfl) ?_
    refine OKS.r rfl rfl rfl (wantedY rfl rfl (decT c1.out)) (fun _ => Runs.leq rfl rfl rfl) ?_
    refine OKS.r rfl rfl rfl rfl (fun _ => Runs.pickT rfl (decT c1.out) rfl) ?_
    refine OKS.r rfl rfl rfl rfl (fun _ => Runs.as rfl rfl) ?_
    refine OKS.e ?_
    refine thenQ_n ?_
    refine CK.ret ?_
    cases hm2
    exact ⟨rfl, _, (res1 rfl), φ, _, hS, rfl, rfl⟩
  · have hm3 := hm; rw [if_neg c1] at hm3; replace c1 := Hid.mk c1
    refine OKS.p rfl rfl rfl (wantedN rfl rfl (decF c1.out) rfl) ?_
    refine OKS.p rfl rfl rfl (wantedN rfl rfl (decF c1.out) rfl) ?_
    refine OKS.p rfl rfl rfl (wantedN rfl rfl (decF c1.out) rfl) ?_
    refine OKS.r rfl rfl rfl rfl (fun _ => Runs.pickF rfl (decF c1.out) rfl) ?_
    refine OKS.r rfl rfl rfl rfl (fun _ => Runs.as rfl rfl) ?_
    refine OKS.e ?_
    refine thenQ_n ?_
    refine CK.ret ?_
    cases hm3
    exact ⟨rfl, _, (res1 rfl), φ, _, hS, rfl, rfl⟩

set_option maxHeartbeats 4000000 in
theorem w_target_Falls_1 (p0 : T_target_Shot) (w : World) (φ : PHeap) (hS : St ⟨w, [], φ⟩ φ [] w)  {r : Bool} (hm : m_target_Falls_1 p0 = some r) : Gv Try.prog 87 [.agg #[.int .i64 p0.X, .int .i64 p0.Y]] w (RetS w [] φ (fun φ_ L_ v => v = .bool r ∧ L_ = [])) := by
  unfold m_target_Falls_1 at hm
  refine Gv.of Try.func87 rfl Try.ntmps87 Try.results87 rfl ?_
  refine CK.seq ?_
  refine CK.reg (ks := []) (.fx 0 (.fl 1 (.nil)) .stop) rfl ?_
  refine OKS.box (cs := [.int .i64 p0.X, .int .i64 p0.Y]) rfl rfl rfl rfl rfl rfl (by rfl) hS ?_
  intro W1 b2 hS3
  refine OKS.r rfl rfl rfl rfl (fun _ => Runs.as rfl rfl) ?_
  refine OKS.e ?_
  refine thenQ_n ?_
  refine CK.seq ?_
  refine CK.reg (ks := []) (.fl 0 (.fl 1 (.fx 2 (.fl 3 (.fl 4 (.fl 5 (.fx 6 (.fl 7 (.fl 8 (.nil))) .stop)))) .stop))) rfl ?_
  refine OKS.r rfl rfl rfl rfl (fun _ => Runs.fa rfl rfl Try.runUnderlying59 rfl Try.sizeOf3) ?_
  refine OKS.m rfl rfl rfl rfl (hS3.ldB (j := 0) rfl rfl rfl Try.isAgg3 (v := .int .i64 p0.X) rfl) rfl ?_
  obtain ⟨x5, h6, hm7⟩ := bnd hm
  refine OKS.callH 0 rfl rfl rfl rfl (Enters.mk rfl rfl Try.call82 (mapcons rfl (mapcons rfl (mapcons rfl mapnil))) rfl) hS3 (fun hs => w_target_within p0.X (-20000) 20000 W1 φ hs h6) (.inr rfl) ?_
  rintro φ8 L9 v10 W11 le12 hS13 ⟨rfl, rfl⟩
  have hS14 : St ⟨w, [], φ⟩ φ8 [.blk b2 59 [.int .i64 p0.X, .int .i64 p0.Y]] W11 := hS13
  refine OKS.r rfl rfl rfl rfl (fun _ => Runs.mv rfl rfl) ?_
  by_cases c15 : x5 = true
  · have hm16 := hm7; rw [if_pos c15] at hm16; replace c15 := Hid.mk c15
    refine OKS.r rfl rfl rfl (wantedY rfl rfl (congrArg Value.bool c15.out)) (fun _ => Runs.fa rfl rfl Try.runUnderlying59 rfl Try.sizeOf3) ?_
    refine OKS.m rfl rfl rfl (wantedY rfl rfl (congrArg Value.bool c15.out)) (hS14.ldB (j := 0) rfl rfl rfl Try.isAgg3 (v := .int .i64 p0.Y) rfl) rfl ?_
    obtain ⟨x17, h18, hm19⟩ := bnd hm16
    refine OKS.callH 0 rfl rfl rfl (wantedY rfl rfl (congrArg Value.bool c15.out)) (Enters.mk rfl rfl Try.call82 (mapcons rfl (mapcons rfl (mapcons rfl mapnil))) rfl) hS14 (fun hs => w_target_within p0.Y (-20000) 20000 W11 φ8 hs h18) (.inr rfl) ?_
    rintro φ20 L21 v22 W23 le24 hS25 ⟨rfl, rfl⟩
    have hS26 : St ⟨w, [], φ⟩ φ20 [.blk b2 59 [.int .i64 p0.X, .int .i64 p0.Y]] W23 := hS25
    refine OKS.r rfl rfl rfl rfl (fun _ => Runs.pickT rfl (congrArg Value.bool c15.out) rfl) ?_
    refine OKS.r rfl rfl rfl rfl (fun _ => Runs.as rfl rfl) ?_
    refine OKS.e ?_
    refine thenQ_n ?_
    refine CK.ret ?_
    cases hm19
    exact ⟨rfl, _, (res1 rfl), φ20, _, (hS26.pick [] _ (by decide) rfl), rfl, rfl⟩
  · have hm27 := hm7; rw [if_neg c15] at hm27; replace c15 := Hid.mk c15
    refine OKS.p rfl rfl rfl (wantedN rfl rfl (congrArg Value.bool (Bool.eq_false_iff.2 c15.out)) rfl) ?_
    refine OKS.p rfl rfl rfl (wantedN rfl rfl (congrArg Value.bool (Bool.eq_false_iff.2 c15.out)) rfl) ?_
    refine OKS.px rfl rfl rfl (wantedN rfl rfl (congrArg Value.bool (Bool.eq_false_iff.2 c15.out)) rfl) ?_
    refine OKS.r rfl rfl rfl rfl (fun _ => Runs.pickF rfl (congrArg Value.bool (Bool.eq_false_iff.2 c15.out)) rfl) ?_
    refine OKS.r rfl rfl rfl rfl (fun _ => Runs.as rfl rfl) ?_
    refine OKS.e ?_
    refine thenQ_n ?_
    refine CK.ret ?_
    cases hm27
    exact ⟨rfl, _, (res1 rfl), φ8, _, (hS14.pick [] _ (by decide) rfl), rfl, rfl⟩

set_option maxHeartbeats 4000000 in
theorem w_target_Falls (p0 : Int) (p1 : List T_target_Shot) (pA1 : Option Addr) (pc1 : Nat) (w : World) (φ : PHeap) (hS : St ⟨w, [], φ⟩ φ [] w) (ha0 : Sl φ 2 pA1 pc1 p1.length (List.flatMap encT_target_Shot p1)) {r : (List Int) × Int} (hm : m_target_Falls p0 p1 = some r) : Gv Try.prog 32 [.int .i64 p0, .slice pA1 p1.length pc1] w (RetS w [] φ (fun φ_ L_ v => ∃ (A0 : Option Addr) (c0 : Nat), v = .tuple #[.slice A0 r.1.length c0, .int .i64 r.2] ∧ L_ = [.row A0 c0 3 1 (List.flatMap encI r.1)])) := by
  unfold m_target_Falls at hm
  refine Gv.of Try.func32 rfl Try.ntmps32 Try.results32 rfl ?_
  refine CK.seq ?_
  refine CK.reg (ks := []) (.fl 0 (.fl 1 (.nil))) rfl ?_
  refine OKS.r rfl rfl rfl rfl (fun _ => Runs.as rfl rfl) ?_
  refine OKS.r rfl rfl rfl rfl (fun _ => Runs.as rfl rfl) ?_
  refine OKS.e ?_
  refine thenQ_n ?_
  obtain ⟨r1, hx2⟩ := jn_some hm
  refine CK.cut (fun σ_ w_ => r1 = .inl () ∧ ∃ (φ_ : PHeap), σ_ 0 = .int .i64 p0 ∧ σ_ 1 = .slice pA1 p1.length pc1 ∧ PHeap.Le φ φ_ ∧ St ⟨w, [], φ⟩ φ_ [] w_) ?_ ?_
  · refine CK.block ?_
    refine CK.seq ?_
    refine CK.reg (ks := []) (.fl 0 (.fl 1 (.fl 2 (.fl 3 (.fl 4 (.fl 5 (.fl 6 (.nil)))))))) rfl ?_
    refine OKS.r rfl rfl rfl rfl (fun _ => Runs.mv rfl rfl) ?_
    refine OKS.r rfl rfl rfl rfl (fun _ => Runs.neq rfl rfl rfl) ?_
    refine OKS.r rfl rfl rfl rfl (fun _ => Runs.mv rfl rfl) ?_
    by_cases c3 : p0 = 0
    · have hm4 := hx2; rw [if_pos c3] at hm4; replace c3 := Hid.mk c3
      refine OKS.p rfl rfl rfl (wantedN rfl rfl (decF (fun h => h c3.out)) rfl) ?_
      refine OKS.p rfl rfl rfl (wantedN rfl rfl (decF (fun h => h c3.out)) rfl) ?_
      refine OKS.r rfl rfl rfl rfl (fun _ => Runs.pickF rfl (decF (fun h => h c3.out)) rfl) ?_
      refine OKS.r rfl rfl rfl rfl (fun _ => Runs.as rfl rfl) ?_
      refine OKS.e ?_
      refine thenQ_n ?_
      refine CK.condF rfl ?_
      refine CK.seq ?_
      refine CK.reg (ks := []) (.fl 0 (.fl 1 (.fl 2 (.fl 3 (.nil))))) rfl ?_
      refine OKS.r rfl rfl rfl rfl (fun _ => Runs.mv rfl rfl) ?_
      refine OKS.r rfl rfl rfl rfl (fun _ => Runs.len rfl rfl Try.runUnderlying56) ?_
      refine OKS.r rfl rfl rfl rfl (fun _ => Runs.gtr rfl rfl rfl) ?_
      refine OKS.r rfl rfl rfl rfl (fun _ => Runs.as rfl rfl) ?_
      refine OKS.e ?_
      refine thenQ_n ?_
      by_cases c5 : 8 < (↑p1.length : Int)
      · have hm6 := hm4; rw [if_pos c5] at hm6; replace c5 := Hid.mk c5
        refine CK.condT (decT c5.out) ?_
        refine CK.seq ?_
        refine CK.reg (ks := []) (.fl 0 (.fl 1 (.nil))) rfl ?_
        refine OKS.r rfl rfl rfl rfl (fun _ => Runs.as rfl rfl) ?_
        refine OKS.r rfl rfl rfl rfl (fun _ => Runs.as rfl rfl) ?_
        refine OKS.e ?_
        refine thenQ_n ?_
        refine CK.ret ?_
        refine blockQ_r ?_
        obtain ⟨v7, hm8, e9⟩ := esc_spec hm6
        obtain rfl := jn_inr hm hx2 e9
        refine thenQ_r ?_
        have hS10 := hS.nilrow 3 1
        cases hm8
        exact ⟨rfl, _, (res2 rfl rfl), φ, _, hS10, none, 0, rfl, rfl⟩
      · have hm12 := hm4; rw [if_neg c5] at hm12; replace c5 := Hid.mk c5
        refine CK.condF (decF c5.out) ?_
        refine CK.seq ?_
        refine CK.reg (ks := []) (.fl 0 (.fx 1 (.fl 2 (.fl 3 (.nil))) .stop)) rfl ?_
        refine OKS.r rfl rfl rfl rfl (fun _ => Runs.mv rfl rfl) ?_
        have hF13 : FnOK Try.prog φ (.func (.func 87) #[] #[]) ar153 rr153 m_target_Falls_1 := ⟨87, [], [], rfl, Try.call87, fun φ1 w1 x y vs le hs ha hm => by obtain rfl := ha; exact w_target_Falls_1 x w1 φ1 hs  hm⟩
        obtain ⟨x14, h15, hm16⟩ := bnd hm12
        refine OKS.callH 0 rfl rfl rfl rfl (Enters.mk rfl rfl Try.call86 (mapcons rfl (mapcons rfl mapnil)) rfl) hS (fun hs => w_target_all_target_Shot p1 pA1 pc1 m_target_Falls_1 (.func (.func 87) #[] #[]) w φ hs ha0 hF13 h15) (.inr rfl) ?_
        rintro φ17 L18 v19 W20 le21 hS22 ⟨rfl, rfl⟩
        have hS23 : St ⟨w, [], φ⟩ φ17 [] W20 := hS22
        refine OKS.r rfl rfl rfl rfl (fun _ => Runs.notT rfl rfl) ?_
        refine OKS.r rfl rfl rfl rfl (fun _ => Runs.as rfl rfl) ?_
        refine OKS.e ?_
        refine thenQ_n ?_
        by_cases c24 : x14 = true
        · have hm25 := hm16; rw [if_pos c24] at hm25; replace c24 := Hid.mk c24
          refine CK.condF (congrArg (fun b => Value.bool (!b)) c24.out) ?_
          refine CK.skip ?_
          refine blockQ_n ?_
          exact thenQ_n ⟨rfl, (Option.some.inj hm25).symm, ⟨φ17, rfl, rfl, le21, hS23⟩⟩
        · have hm26 := hm16; rw [if_neg c24] at hm26; replace c24 := Hid.mk c24
          refine CK.condT (congrArg (fun b => Value.bool (!b)) (Bool.eq_false_iff.2 c24.out)) ?_
          refine CK.seq ?_
          refine CK.reg (ks := []) (.fl 0 (.fl 1 (.nil))) rfl ?_
          refine OKS.r rfl rfl rfl rfl (fun _ => Runs.as rfl rfl) ?_
          refine OKS.r rfl rfl rfl rfl (fun _ => Runs.as rfl rfl) ?_
          refine OKS.e ?_
          refine thenQ_n ?_
          refine CK.ret ?_
          refine blockQ_r ?_
          obtain ⟨v27, hm28, e29⟩ := esc_spec hm26
          obtain rfl := jn_inr hm hx2 e29
          refine thenQ_r ?_
          have hS30 := hS23.nilrow 3 1
          cases hm28
          exact ⟨rfl, _, (res2 rfl rfl), φ17, _, hS30, none, 0, rfl, rfl⟩
    · have hm32 := hx2; rw [if_neg c3] at hm32; replace c3 := Hid.mk c3
      refine OKS.r rfl rfl rfl (wantedY rfl rfl (decT c3.out)) (fun _ => Runs.mv rfl rfl) ?_
      refine OKS.r rfl rfl rfl (wantedY rfl rfl (decT c3.out)) (fun _ => Runs.neq rfl rfl rfl) ?_
      refine OKS.r rfl rfl rfl rfl (fun _ => Runs.pickT rfl (decT c3.out) rfl) ?_
      refine OKS.r rfl rfl rfl rfl (fun _ => Runs.as rfl rfl) ?_
      refine OKS.e ?_
      refine thenQ_n ?_
      by_cases c33 : p0 = 1
      · have hm34 := hm32; rw [if_pos c33] at hm34; replace c33 := Hid.mk c33
        refine CK.condF (decF (fun h => h c33.out)) ?_
        refine CK.seq ?_
        refine CK.reg (ks := []) (.fl 0 (.fl 1 (.fl 2 (.fl 3 (.nil))))) rfl ?_
        refine OKS.r rfl rfl rfl rfl (fun _ => Runs.mv rfl rfl) ?_
        refine OKS.r rfl rfl rfl rfl (fun _ => Runs.len rfl rfl Try.runUnderlying56) ?_
        refine OKS.r rfl rfl rfl rfl (fun _ => Runs.gtr rfl rfl rfl) ?_
        refine OKS.r rfl rfl rfl rfl (fun _ => Runs.as rfl rfl) ?_
        refine OKS.e ?_
        refine thenQ_n ?_
        by_cases c35 : 8 < (↑p1.length : Int)
        · have hm36 := hm34; rw [if_pos c35] at hm36; replace c35 := Hid.mk c35
          refine CK.condT (decT c35.out) ?_
          refine CK.seq ?_
          refine CK.reg (ks := []) (.fl 0 (.fl 1 (.nil))) rfl ?_
          refine OKS.r rfl rfl rfl rfl (fun _ => Runs.as rfl rfl) ?_
          refine OKS.r rfl rfl rfl rfl (fun _ => Runs.as rfl rfl) ?_
          refine OKS.e ?_
          refine thenQ_n ?_
          refine CK.ret ?_
          refine blockQ_r ?_
          obtain ⟨v37, hm38, e39⟩ := esc_spec hm36
          obtain rfl := jn_inr hm hx2 e39
          refine thenQ_r ?_
          have hS40 := hS.nilrow 3 1
          cases hm38
          exact ⟨rfl, _, (res2 rfl rfl), φ, _, hS40, none, 0, rfl, rfl⟩
        · have hm42 := hm34; rw [if_neg c35] at hm42; replace c35 := Hid.mk c35
          refine CK.condF (decF c35.out) ?_
          refine CK.seq ?_
          refine CK.reg (ks := []) (.fl 0 (.fx 1 (.fl 2 (.fl 3 (.nil))) .stop)) rfl ?_
          refine OKS.r rfl rfl rfl rfl (fun _ => Runs.mv rfl rfl) ?_
          have hF43 : FnOK Try.prog φ (.func (.func 87) #[] #[]) ar153 rr153 m_target_Falls_1 := ⟨87, [], [], rfl, Try.call87, fun φ1 w1 x y vs le hs ha hm => by obtain rfl := ha; exact w_target_Falls_1 x w1 φ1 hs  hm⟩
          obtain ⟨x44, h45, hm46⟩ := bnd hm42
          refine OKS.callH 0 rfl rfl rfl rfl (Enters.mk rfl rfl Try.call86 (mapcons rfl (mapcons rfl mapnil)) rfl) hS (fun hs => w_target_all_target_Shot p1 pA1 pc1 m_target_Falls_1 (.func (.func 87) #[] #[]) w φ hs ha0 hF43 h45) (.inr rfl) ?_
          rintro φ47 L48 v49 W50 le51 hS52 ⟨rfl, rfl⟩
          have hS53 : St ⟨w, [], φ⟩ φ47 [] W50 := hS52
          refine OKS.r rfl rfl rfl rfl (fun _ => Runs.notT rfl rfl) ?_
          refine OKS.r rfl rfl rfl rfl (fun _ => Runs.as rfl rfl) ?_
          refine OKS.e ?_
          refine thenQ_n ?_
          by_cases c54 : x44 = true
          · have hm55 := hm46; rw [if_pos c54] at hm55; replace c54 := Hid.mk c54
            refine CK.condF (congrArg (fun b => Value.bool (!b)) c54.out) ?_
            refine CK.skip ?_
            refine blockQ_n ?_
            exact thenQ_n ⟨rfl, (Option.some.inj hm55).symm, ⟨φ47, rfl, rfl, le51, hS53⟩⟩
          · have hm56 := hm46; rw [if_neg c54] at hm56; replace c54 := Hid.mk c54
            refine CK.condT (congrArg (fun b => Value.bool (!b)) (Bool.eq_false_iff.2 c54.out)) ?_
            refine CK.seq ?_
            refine CK.reg (ks := []) (.fl 0 (.fl 1 (.nil))) rfl ?_
            refine OKS.r rfl rfl rfl rfl (fun _ => Runs.as rfl rfl) ?_
            refine OKS.r rfl rfl rfl rfl (fun _ => Runs.as rfl rfl) ?_
            refine OKS.e ?_
            refine thenQ_n ?_
            refine CK.ret ?_
            refine blockQ_r ?_
            obtain ⟨v57, hm58, e59⟩ := esc_spec hm56
            obtain rfl := jn_inr hm hx2 e59
            refine thenQ_r ?_
            have hS60 := hS53.nilrow 3 1
            cases hm58
            exact ⟨rfl, _, (res2 rfl rfl), φ47, _, hS60, none, 0, rfl, rfl⟩
      · have hm62 := hm32; rw [if_neg c33] at hm62; replace c33 := Hid.mk c33
        refine CK.condT (decT c33.out) ?_
        refine CK.seq ?_
        refine CK.reg (ks := []) (.fl 0 (.fl 1 (.nil))) rfl ?_
        refine OKS.r rfl rfl rfl rfl (fun _ => Runs.as rfl rfl) ?_
        refine OKS.r rfl rfl rfl rfl (fun _ => Runs.as rfl rfl) ?_
        refine OKS.e ?_
        refine thenQ_n ?_
        refine CK.ret ?_
        refine blockQ_r ?_
        obtain ⟨v63, hm64, e65⟩ := esc_spec hm62
        obtain rfl := jn_inr hm hx2 e65
        refine thenQ_r ?_
        have hS66 := hS.nilrow 3 1
        cases hm64
        exact ⟨rfl, _, (res2 rfl rfl), φ, _, hS66, none, 0, rfl, rfl⟩
  · rintro σ68 W69 ⟨er70, ⟨φ71, f74, f75, le72, hS73⟩⟩
    have hm76 := jn_inl hm hx2 er70
    try dsimp only at hm76
    refine CK.seq ?_
    refine CK.reg (ks := []) (.fl 0 (.fl 1 (.fl 2 (.fl 3 (.nil))))) rfl ?_
    refine OKS.r rfl rfl rfl rfl (fun _ => Runs.buildA (pv := [(0, .int .i64 225), (1, .int .i64 575)]) (z := [.int .i64 0, .int .i64 0]) (cs := [.int .i64 225, .int .i64 575]) rfl (mapcons2 rfl (mapcons2 rfl mapnil2)) Try.zeroValue154 Try.runUnderlying154 Try.sizeOf3 rfl rfl) ?_
    refine OKS.r rfl rfl rfl rfl (fun _ => Runs.mv rfl f74) ?_
    obtain ⟨x77, h78, hm79⟩ := bnd hm76
    refine OKS.r rfl rfl rfl rfl (fun _ => Runs.ixA (cs := List.flatMap encI ([225, 575] : List Int)) rfl rfl rfl Try.runUnderlying154 Try.sizeOf3 (idx_lo h78) (idx_hi h78) (run_part1 Try.isAgg3 (flatMap_at (sz := 1) (fun _ => rfl) _ _ 0 _ _ (idx_get h78) rfl))) ?_
    refine OKS.r rfl rfl rfl rfl (fun _ => Runs.as rfl rfl) ?_
    refine OKS.e ?_
    refine thenQ_n ?_
    refine CK.seq ?_
    refine CK.reg (ks := []) (.fx 0 (.nil) .stop) rfl ?_
    refine OKS.alloc (cs := List.flatMap encT (Arr.fill 6 false).l) rfl rfl rfl rfl rfl Try.zeroValue155 rfl hS73 ?_
    intro W80 b81 hS82
    have hS84 : St ⟨w, [], φ⟩ φ71 [.blk b81 155 (List.flatMap encT (Arr.fill 6 false).l)] W80 := hS82
    refine OKS.e ?_
    refine thenQ_n ?_
    refine CK.seq ?_
    refine CK.reg (ks := []) (.fl 0 (.nil)) rfl ?_
    refine OKS.r rfl rfl rfl rfl (fun _ => Runs.as rfl rfl) ?_
    refine OKS.e ?_
    refine thenQ_n ?_
    refine CK.seq ?_
    refine CK.reg (ks := []) (.fl 0 (.nil)) rfl ?_
    refine OKS.r rfl rfl rfl rfl (fun _ => Runs.as rfl rfl) ?_
    refine OKS.e ?_
    refine thenQ_n ?_
    refine CK.seq ?_
    refine CK.seq ?_
    refine CK.reg (ks := []) (.fl 0 (.fl 1 (.fl 2 (.nil)))) rfl ?_
    refine OKS.r rfl rfl rfl rfl (fun _ => Runs.mv rfl f75) ?_
    refine OKS.r rfl rfl rfl rfl (fun _ => Runs.len rfl rfl Try.runUnderlying56) ?_
    refine OKS.r rfl rfl rfl rfl (fun _ => Runs.mv rfl rfl) ?_
    refine OKS.e ?_
    refine thenQ_n ?_
    refine CK.block ?_
    obtain ⟨r111, hX112⟩ := jn_some hm79
    obtain ⟨hle113, hf114⟩ := forR_le hX112
    replace hle113 := Hid.mk hle113
    refine CK.forN (fun k110 (a104, x105, l106) σ_ w_ => ∃ (φ_ : PHeap) (A107 : Option Addr) (c108 : Nat), σ_ 35 = .int .i64 (↑k110 : Int) ∧ σ_ 6 = .int .i64 x77 ∧ σ_ 7 = .pointer (some ⟨b81, 0, none⟩) ∧ σ_ 8 = .int .i64 x105 ∧ σ_ 9 = .slice A107 l106.length c108 ∧ σ_ 33 = .slice pA1 p1.length pc1 ∧ σ_ 34 = .int .i64 (↑p1.length : Int) ∧ PHeap.Le φ71 φ_ ∧ St ⟨w, [], φ⟩ φ_ [.blk b81 155 (List.flatMap encT a104.l), .row A107 c108 3 1 (List.flatMap encI l106)] w_) hf114 ?_ ?_ ?_
    · have hS115 := hS84.nilrow 3 1
      exact ⟨φ71, none, 0, rfl, rfl, rfl, rfl, rfl, rfl, rfl, (PHeap.Le.refl _), (hS115.pick [1, 0] _ (by decide) rfl)⟩
    · rintro k110 ⟨a104, x105, l106⟩ xx119 σ117 W118 hk122 ⟨φ124, A107, c108, fi123, f127, f128, f129, f130, f131, f132, le125, hS126⟩ hx120 hb121
      try dsimp only at hx120
      have c133 : Hid ((↑k110 : Int) < (↑p1.length : Int)) := Hid.mk (lp_lt0 hk122)
      replace hk122 := Hid.mk hk122
      have hi134 : Hid (w64 ((↑k110 : Int) + 1) = (↑(k110 + 1) : Int)) := Hid.mk (by have h1 := hle113.out; have h2 := c133.out; rw [w64_in] <;> omega)
      refine CK.seq ?_
      refine CK.reg (ks := []) (.fl 0 (.nil)) rfl ?_
      refine OKS.r rfl rfl rfl rfl (fun _ => Runs.lss rfl fi123 f132) ?_
      refine OKS.e ?_
      refine thenQ_n ?_
      refine CK.seq ?_
      refine CK.condT (decT c133.out) ?_
      refine CK.skip ?_
      refine thenQ_n ?_
      refine CK.seq ?_
      refine CK.block ?_
      refine CK.seq ?_
      refine CK.reg (ks := []) (.fl 0 (.fl 1 (.fx 2 (.fx 3 (.nil) .stop) .stop))) rfl ?_
      obtain ⟨x135, h136, hm137⟩ := bnd hx120
      have h138 := ha0.le le72
      have h139 := h138.le le125
      obtain ⟨b140, off141, hA142, hC143⟩ := h139.el (fun _ => rfl) (idx_get h136)
      refine OKS.r rfl rfl rfl rfl (fun _ => Runs.iaN rfl f131 hA142 fi123 Try.runUnderlying56 Try.sizeOf59 (idx_lt h136)) ?_
      refine OKS.m rfl rfl rfl rfl (hS126.ldCA (f := 0) hC143 rfl rfl Try.isAgg59 Try.sizeOf59 (us := [.int .i64 x135.X, .int .i64 x135.Y]) rfl rfl) rfl ?_
      refine OKS.alloc (cs := [.int .i64 0, .int .i64 0]) rfl rfl rfl rfl rfl Try.zeroValue59 rfl hS126 ?_
      intro W144 b145 hS146
      refine OKS.st (j := 0) (vs := [.int .i64 x135.X, .int .i64 x135.Y]) rfl rfl rfl rfl hS146 rfl rfl rfl rfl Try.sizeOf59 (Nat.le_of_ble_eq_true rfl) rfl rfl rfl ?_
      intro W148 hS149
      have hS150 : St ⟨w, [], φ⟩ φ124 [.blk b145 59 [.int .i64 x135.X, .int .i64 x135.Y], .blk b81 155 (List.flatMap encT a104.l), .row A107 c108 3 1 (List.flatMap encI l106)] W148 := hS149
      refine OKS.e ?_
      refine thenQ_n ?_
      refine CK.seq ?_
      refine CK.seq ?_
      refine CK.reg (ks := []) (.fl 0 (.fl 1 (.nil))) rfl ?_
      refine OKS.r rfl rfl rfl rfl (fun _ => Runs.mv rfl f129) ?_
      refine OKS.r rfl rfl rfl rfl (fun _ => Runs.eql rfl rfl rfl) ?_
      refine OKS.e ?_
      refine thenQ_n ?_
      by_cases c151 : x105 = 5
      · have hm152 := hm137; rw [if_pos c151] at hm152; replace c151 := Hid.mk c151
        refine CK.condT (decT c151.out) ?_
        refine CK.seq ?_
        refine CK.reg (ks := []) (.fl 0 (.fl 1 (.nil))) rfl ?_
        refine OKS.r rfl rfl rfl rfl (fun _ => Runs.as rfl rfl) ?_
        refine OKS.r rfl rfl rfl rfl (fun _ => Runs.as rfl rfl) ?_
        refine OKS.e ?_
        refine thenQ_n ?_
        refine CK.ret ?_
        refine thenQ_r ?_
        refine blockQ_r ?_
        refine thenQ_r ?_
        obtain ⟨v153, hm154, e155⟩ := esc_spec hm152
        obtain rfl := jn_inr hm79 hX112 (hb121 v153 e155)
        refine thenQ_r ?_
        refine blockQ_r ?_
        refine thenQ_r ?_
        have hS156 := hS150.nilrow 3 1
        cases hm154
        exact ⟨rfl, _, (res2 rfl rfl), φ124, _, (hS156.pick [0] _ (by decide) rfl), none, 0, rfl, rfl⟩
      · have hm158 := hm137; rw [if_neg c151] at hm158; replace c151 := Hid.mk c151
        refine CK.condF (decF c151.out) ?_
        refine CK.skip ?_
        refine thenQ_n ?_
        refine CK.seq ?_
        refine CK.reg (ks := []) (.fl 0 (.nil)) rfl ?_
        refine OKS.r rfl rfl rfl rfl (fun _ => Runs.as rfl rfl) ?_
        refine OKS.e ?_
        refine thenQ_n ?_
        refine CK.seq ?_
        refine CK.seq ?_
        refine CK.reg (ks := []) (.fl 0 (.nil)) rfl ?_
        refine OKS.r rfl rfl rfl rfl (fun _ => Runs.as rfl rfl) ?_
        refine OKS.e ?_
        refine thenQ_n ?_
        refine CK.block ?_
        obtain ⟨y170, hf167, hm166⟩ := bnd hm158
        obtain ⟨hle168, hf169⟩ := forR'_le hf167
        replace hle168 := Hid.mk hle168
        refine CK.forN' (fun k165 x164 σ_ w_ => ∃ (φ_ : PHeap), σ_ 13 = .int .i64 (1 + ↑k165 : Int) ∧ σ_ 6 = .int .i64 x77 ∧ σ_ 7 = .pointer (some ⟨b81, 0, none⟩) ∧ σ_ 8 = .int .i64 x105 ∧ σ_ 9 = .slice A107 l106.length c108 ∧ σ_ 11 = .pointer (some ⟨b145, 0, none⟩) ∧ σ_ 12 = .int .i64 x164 ∧ σ_ 33 = .slice pA1 p1.length pc1 ∧ σ_ 34 = .int .i64 (↑p1.length : Int) ∧ σ_ 35 = .int .i64 (↑k110 : Int) ∧ PHeap.Le φ124 φ_ ∧ St ⟨w, [], φ⟩ φ_ [.blk b145 59 [.int .i64 x135.X, .int .i64 x135.Y], .blk b81 155 (List.flatMap encT a104.l), .row A107 c108 3 1 (List.flatMap encI l106)] w_) hf169 ?_ ?_ ?_
        · exact ⟨φ124, rfl, f127, f128, f129, f130, rfl, rfl, f131, f132, fi123, (PHeap.Le.refl _), hS150⟩
        · rintro k165 x164 xx173 σ171 W172 hk176 ⟨φ178, fi177, f181, f182, f183, f184, f185, f186, f187, f188, f189, le179, hS180⟩ hx174
          have c190 : Hid ((1 + ↑k165 : Int) ≤ 5) := Hid.mk (lp_le hk176)
          replace hk176 := Hid.mk hk176
          have hi191 : Hid (w64 ((1 + ↑k165 : Int) + 1) = (1 + ↑(k165 + 1) : Int)) := Hid.mk (by have h1 := hle168.out; have h2 := c190.out; rw [w64_in] <;> omega)
          refine CK.seq ?_
          refine CK.seq ?_
          refine CK.reg (ks := []) (.fl 0 (.fl 1 (.nil))) rfl ?_
          refine OKS.r rfl rfl rfl rfl (fun _ => Runs.mv rfl fi177) ?_
          refine OKS.r rfl rfl rfl rfl (fun _ => Runs.leq rfl rfl rfl) ?_
          refine OKS.e ?_
          refine thenQ_n ?_
          refine CK.condT (decT c190.out) ?_
          refine CK.skip ?_
          refine thenQ_n ?_
          refine CK.seq ?_
          refine CK.block ?_
          refine CK.seq ?_
          refine CK.reg (ks := []) (.fl 0 (.fl 1 (.fl 2 (.fl 3 (.fl 4 (.fl 5 (.fl 6 (.nil)))))))) rfl ?_
          refine OKS.r rfl rfl rfl rfl (fun _ => Runs.fa rfl f185 Try.runUnderlying59 rfl Try.sizeOf3) ?_
          refine OKS.m rfl rfl rfl rfl (hS180.ldB (j := 0) rfl rfl rfl Try.isAgg3 (v := .int .i64 x135.X) rfl) rfl ?_
          refine OKS.r rfl rfl rfl rfl (fun _ => Runs.mv rfl fi177) ?_
          refine OKS.r rfl rfl rfl rfl (fun _ => Runs.subw rfl rfl rfl) ?_
          refine OKS.r rfl rfl rfl rfl (fun _ => Runs.mulw rfl rfl rfl) ?_
          refine OKS.r rfl rfl rfl rfl (fun _ => Runs.subw rfl rfl rfl) ?_
          refine OKS.r rfl rfl rfl rfl (fun _ => Runs.as rfl rfl) ?_
          refine OKS.e ?_
          refine thenQ_n ?_
          refine CK.seq ?_
          refine CK.reg (ks := []) (.fl 0 (.fl 1 (.fl 2 (.fl 3 (.fl 4 (.fl 5 (.fl 6 (.fl 7 (.fl 8 (.fl 9 (.fl 10 (.fl 11 (.fl 12 (.fl 13 (.fl 14 (.fl 15 (.fl 16 (.fl 17 (.fl 18 (.nil)))))))))))))))))))) rfl ?_
          refine OKS.r rfl rfl rfl rfl (fun _ => Runs.mv rfl fi177) ?_
          obtain ⟨_, h192, hm193⟩ := bnd hx174
          refine OKS.r rfl rfl rfl rfl (fun _ => Runs.iaA rfl f182 rfl Try.runUnderlying155 Try.sizeOf4 (chk_lo h192) (chk_hi h192)) ?_
          have hg194 := Arr.at_ a104 (k := ((1 + ↑k165 : Int).toNat)) (by have hz0 := chk_lt h192; omega)
          refine OKS.m rfl rfl rfl rfl (hS180.ldB (j := 1) rfl rfl rfl Try.isAgg4 (flatMap_cell (sz := 1) (fun _ => rfl) _ _ 0 _ hg194 (by omega) rfl)) rfl ?_
          refine OKS.r rfl rfl rfl rfl (fun _ => Runs.notT rfl rfl) ?_
          refine OKS.r rfl rfl rfl rfl (fun _ => Runs.mv rfl rfl) ?_
          by_cases c195 : (a104.get ((1 + ↑k165 : Int).toNat)) = true
          · have hm196 := hm193; rw [if_pos c195] at hm196; replace c195 := Hid.mk c195
            refine OKS.p rfl rfl rfl (wantedN rfl rfl (congrArg (fun b => Value.bool (!b)) c195.out) rfl) ?_
            refine OKS.p rfl rfl rfl (wantedN rfl rfl (congrArg (fun b => Value.bool (!b)) c195.out) rfl) ?_
            refine OKS.p rfl rfl rfl (wantedN rfl rfl (congrArg (fun b => Value.bool (!b)) c195.out) rfl) ?_
            refine OKS.p rfl rfl rfl (wantedN rfl rfl (congrArg (fun b => Value.bool (!b)) c195.out) rfl) ?_
            refine OKS.p rfl rfl rfl (wantedN rfl rfl (congrArg (fun b => Value.bool (!b)) c195.out) rfl) ?_
            refine OKS.p rfl rfl rfl (wantedN rfl rfl (congrArg (fun b => Value.bool (!b)) c195.out) rfl) ?_
            refine OKS.p rfl rfl rfl (wantedN rfl rfl (congrArg (fun b => Value.bool (!b)) c195.out) rfl) ?_
            refine OKS.p rfl rfl rfl (wantedN rfl rfl (congrArg (fun b => Value.bool (!b)) c195.out) rfl) ?_
            refine OKS.p rfl rfl rfl (wantedN rfl rfl (congrArg (fun b => Value.bool (!b)) c195.out) rfl) ?_
            refine OKS.p rfl rfl rfl (wantedN rfl rfl (congrArg (fun b => Value.bool (!b)) c195.out) rfl) ?_
            refine OKS.p rfl rfl rfl (wantedN rfl rfl (congrArg (fun b => Value.bool (!b)) c195.out) rfl) ?_
            refine OKS.p rfl rfl rfl (wantedN rfl rfl (congrArg (fun b => Value.bool (!b)) c195.out) rfl) ?_
            refine OKS.p rfl rfl rfl (wantedN rfl rfl (congrArg (fun b => Value.bool (!b)) c195.out) rfl) ?_
            refine OKS.r rfl rfl rfl rfl (fun _ => Runs.pickF rfl (congrArg (fun b => Value.bool (!b)) c195.out) rfl) ?_
            refine OKS.e ?_
            refine thenQ_n ?_
            refine CK.condF rfl ?_
            refine CK.skip ?_
            refine blockQ_n ?_
            refine thenQ_n ?_
            refine CK.reg (ks := []) (.fl 0 (.fl 1 (.fl 2 (.nil)))) rfl ?_
            refine OKS.r rfl rfl rfl rfl (fun _ => Runs.mv rfl fi177) ?_
            refine OKS.r rfl rfl rfl rfl (fun _ => Runs.to (Runs.addw rfl rfl rfl) (congrArg (Value.int .i64) hi191.out)) ?_
            refine OKS.r rfl rfl rfl rfl (fun _ => Runs.as rfl rfl) ?_
            refine OKS.e ?_
            cases hm196
            exact thenQ_n ⟨rfl, ⟨φ178, rfl, f181, f182, f183, f184, f185, f186, f187, f188, f189, le179, hS180⟩⟩
          · have hm198 := hm193; rw [if_neg c195] at hm198; replace c195 := Hid.mk c195
            refine OKS.r rfl rfl rfl (wantedY rfl rfl (congrArg (fun b => Value.bool (!b)) (Bool.eq_false_iff.2 c195.out))) (fun _ => Runs.mv rfl rfl) ?_
            refine OKS.r rfl rfl rfl (wantedY rfl rfl (congrArg (fun b => Value.bool (!b)) (Bool.eq_false_iff.2 c195.out))) (fun _ => Runs.mv rfl rfl) ?_
            refine OKS.r rfl rfl rfl (wantedY rfl rfl (congrArg (fun b => Value.bool (!b)) (Bool.eq_false_iff.2 c195.out))) (fun _ => Runs.mulw rfl rfl rfl) ?_
            refine OKS.r rfl rfl rfl (wantedY rfl rfl (congrArg (fun b => Value.bool (!b)) (Bool.eq_false_iff.2 c195.out))) (fun _ => Runs.fa rfl f185 Try.runUnderlying59 rfl Try.sizeOf3) ?_
            refine OKS.m rfl rfl rfl (wantedY rfl rfl (congrArg (fun b => Value.bool (!b)) (Bool.eq_false_iff.2 c195.out))) (hS180.ldB (j := 0) rfl rfl rfl Try.isAgg3 (v := .int .i64 x135.Y) rfl) rfl ?_
            refine OKS.r rfl rfl rfl (wantedY rfl rfl (congrArg (fun b => Value.bool (!b)) (Bool.eq_false_iff.2 c195.out))) (fun _ => Runs.fa rfl f185 Try.runUnderlying59 rfl Try.sizeOf3) ?_
            refine OKS.m rfl rfl rfl (wantedY rfl rfl (congrArg (fun b => Value.bool (!b)) (Bool.eq_false_iff.2 c195.out))) (hS180.ldB (j := 0) rfl rfl rfl Try.isAgg3 (v := .int .i64 x135.Y) rfl) rfl ?_
            refine OKS.r rfl rfl rfl (wantedY rfl rfl (congrArg (fun b => Value.bool (!b)) (Bool.eq_false_iff.2 c195.out))) (fun _ => Runs.mulw rfl rfl rfl) ?_
            refine OKS.r rfl rfl rfl (wantedY rfl rfl (congrArg (fun b => Value.bool (!b)) (Bool.eq_false_iff.2 c195.out))) (fun _ => Runs.addw rfl rfl rfl) ?_
            refine OKS.r rfl rfl rfl (wantedY rfl rfl (congrArg (fun b => Value.bool (!b)) (Bool.eq_false_iff.2 c195.out))) (fun _ => Runs.mv rfl f181) ?_
            refine OKS.r rfl rfl rfl (wantedY rfl rfl (congrArg (fun b => Value.bool (!b)) (Bool.eq_false_iff.2 c195.out))) (fun _ => Runs.mv rfl f181) ?_
            refine OKS.r rfl rfl rfl (wantedY rfl rfl (congrArg (fun b => Value.bool (!b)) (Bool.eq_false_iff.2 c195.out))) (fun _ => Runs.mulw rfl rfl rfl) ?_
            refine OKS.r rfl rfl rfl (wantedY rfl rfl (congrArg (fun b => Value.bool (!b)) (Bool.eq_false_iff.2 c195.out))) (fun _ => Runs.leq rfl rfl rfl) ?_
            refine OKS.r rfl rfl rfl rfl (fun _ => Runs.pickT rfl (congrArg (fun b => Value.bool (!b)) (Bool.eq_false_iff.2 c195.out)) rfl) ?_
            refine OKS.e ?_
            refine thenQ_n ?_
            by_cases c199 : (w64 ((w64 ((w64 (x135.X - (w64 (2500 * (w64 ((1 + ↑k165 : Int) - 1)))))) * (w64 (x135.X - (w64 (2500 * (w64 ((1 + ↑k165 : Int) - 1)))))))) + (w64 (x135.Y * x135.Y)))) ≤ (w64 (x77 * x77))
            · have hm200 := hm198; rw [if_pos c199] at hm200; replace c199 := Hid.mk c199
              refine CK.condT (decT c199.out) ?_
              refine CK.reg (ks := []) (.fl 0 (.fl 1 (.nil))) rfl ?_
              refine OKS.r rfl rfl rfl rfl (fun _ => Runs.mv rfl fi177) ?_
              refine OKS.r rfl rfl rfl rfl (fun _ => Runs.as rfl rfl) ?_
              refine OKS.e ?_
              refine blockQ_n ?_
              refine thenQ_n ?_
              refine CK.reg (ks := []) (.fl 0 (.fl 1 (.fl 2 (.nil)))) rfl ?_
              refine OKS.r rfl rfl rfl rfl (fun _ => Runs.mv rfl fi177) ?_
              refine OKS.r rfl rfl rfl rfl (fun _ => Runs.to (Runs.addw rfl rfl rfl) (congrArg (Value.int .i64) hi191.out)) ?_
              refine OKS.r rfl rfl rfl rfl (fun _ => Runs.as rfl rfl) ?_
              refine OKS.e ?_
              cases hm200
              exact thenQ_n ⟨rfl, ⟨φ178, rfl, f181, f182, f183, f184, f185, rfl, f187, f188, f189, le179, hS180⟩⟩
            · have hm202 := hm198; rw [if_neg c199] at hm202; replace c199 := Hid.mk c199
              refine CK.condF (decF c199.out) ?_
              refine CK.skip ?_
              refine blockQ_n ?_
              refine thenQ_n ?_
              refine CK.reg (ks := []) (.fl 0 (.fl 1 (.fl 2 (.nil)))) rfl ?_
              refine OKS.r rfl rfl rfl rfl (fun _ => Runs.mv rfl fi177) ?_
              refine OKS.r rfl rfl rfl rfl (fun _ => Runs.to (Runs.addw rfl rfl rfl) (congrArg (Value.int .i64) hi191.out)) ?_
              refine OKS.r rfl rfl rfl rfl (fun _ => Runs.as rfl rfl) ?_
              refine OKS.e ?_
              cases hm202
              exact thenQ_n ⟨rfl, ⟨φ178, rfl, f181, f182, f183, f184, f185, f186, f187, f188, f189, le179, hS180⟩⟩
        · rintro σ204 W205 ⟨φ209, fi207, f212, f213, f214, f215, f216, f217, f218, f219, f220, le210, hS211⟩
          have c221 : Hid (¬ ((1 + ↑(((5 + 1) : Int) - 1).toNat : Int) ≤ 5)) := Hid.mk (lp_end_le)
          refine CK.seq ?_
          refine CK.seq ?_
          refine CK.reg (ks := []) (.fl 0 (.fl 1 (.nil))) rfl ?_
          refine OKS.r rfl rfl rfl rfl (fun _ => Runs.mv rfl fi207) ?_
          refine OKS.r rfl rfl rfl rfl (fun _ => Runs.leq rfl rfl rfl) ?_
          refine OKS.e ?_
          refine thenQ_n ?_
          refine CK.condF (decF c221.out) ?_
          refine CK.exit ?_
          refine thenQ_e ?_
          refine thenQ_e ?_
          refine blockQ_h ?_
          refine thenQ_n ?_
          refine CK.seq ?_
          refine CK.seq ?_
          refine CK.reg (ks := []) (.fl 0 (.fl 1 (.nil))) rfl ?_
          refine OKS.r rfl rfl rfl rfl (fun _ => Runs.mv rfl f217) ?_
          refine OKS.r rfl rfl rfl rfl (fun _ => Runs.gtr rfl rfl rfl) ?_
          refine OKS.e ?_
          refine thenQ_n ?_
          by_cases c222 : 0 < y170
          · have hm223 := hm166; rw [if_pos c222] at hm223; replace c222 := Hid.mk c222
            refine CK.condT (decT c222.out) ?_
            refine CK.seq ?_
            refine CK.reg (ks := []) (.fl 0 (.fl 1 (.fx 2 (.nil) .stop))) rfl ?_
            refine OKS.r rfl rfl rfl rfl (fun _ => Runs.mv rfl f217) ?_
            obtain ⟨_, h224, hm225⟩ := bnd hm223
            refine OKS.r rfl rfl rfl rfl (fun _ => Runs.iaA rfl f213 rfl Try.runUnderlying155 Try.sizeOf4 (chk_lo h224) (chk_hi h224)) ?_
            have hg226 := Arr.at_ a104 (k := y170.toNat) (by have hz0 := chk_lt h224; omega)
            refine OKS.st (j := 1) (vs := [.bool true]) (cs' := List.flatMap encT (a104.set y170.toNat true).l) rfl rfl rfl rfl hS211 rfl rfl rfl rfl Try.sizeOf4 (by have hz0 := chk_lt h224; simp only [List.length_append, List.length_cons, List.length_nil, whole_len (f := encT) (sz := 1) (N := 6) a104 (fun _ => rfl) rfl]; omega) rfl (setN_at (sz := 1) (fo := 0) (fun _ => rfl) _ _ _ _ hg226 (by omega) (Nat.le_of_ble_eq_true rfl) rfl) rfl ?_
            intro W227 hS228
            have hS229 : St ⟨w, [], φ⟩ φ209 [.blk b145 59 [.int .i64 x135.X, .int .i64 x135.Y], .blk b81 155 (List.flatMap encT (a104.set y170.toNat true).l), .row A107 c108 3 1 (List.flatMap encI l106)] W227 := hS228
            refine OKS.e ?_
            refine thenQ_n ?_
            refine CK.reg (ks := []) (.fl 0 (.fl 1 (.fl 2 (.nil)))) rfl ?_
            refine OKS.r rfl rfl rfl rfl (fun _ => Runs.mv rfl f214) ?_
            refine OKS.r rfl rfl rfl rfl (fun _ => Runs.addw rfl rfl rfl) ?_
            refine OKS.r rfl rfl rfl rfl (fun _ => Runs.as rfl rfl) ?_
            refine OKS.e ?_
            refine thenQ_n ?_
            refine CK.reg (ks := []) (.fl 0 (.fl 1 (.fx 2 (.fx 3 (.fl 4 (.nil)) .stop) .stop))) rfl ?_
            refine OKS.r rfl rfl rfl rfl (fun _ => Runs.mv rfl f215) ?_
            refine OKS.r rfl rfl rfl rfl (fun _ => Runs.mv rfl f217) ?_
            refine OKS.buildSlice (pv := [(0, .int .i64 y170)]) (zs := [.int .i64 0]) (cs := [.int .i64 y170]) rfl rfl rfl rfl rfl (mapcons2 rfl mapnil2) Try.runUnderlying23 Try.sizeOf3 Try.zeroValue3 rfl rfl rfl rfl rfl hS229 ?_
            intro W230 b231 hS232
            have hS234 : St ⟨w, [], φ⟩ φ209 [.row (some ⟨b231, 0, none⟩) 1 3 1 (List.flatMap encI [y170]), .blk b145 59 [.int .i64 x135.X, .int .i64 x135.Y], .blk b81 155 (List.flatMap encT (a104.set y170.toNat true).l), .row A107 c108 3 1 (List.flatMap encI l106)] W230 := hS232
            obtain ⟨x235, h236, hm237⟩ := bnd hm225
            refine OKS.append (j := 3) (enc := encI) (xs := l106) (ys := [y170]) (zs := x235) rfl rfl rfl rfl rfl Try.underlying23 info3 rfl rfl rfl rfl rfl rfl hS234 rfl rfl rfl (hS234.srcR (j := 0) rfl (by decide) (flatMap_len (f := encI) (sz := 1) (fun _ => rfl) [y170])) (fun _ => rfl) (fun _ => rfl) h236 rfl ?_
            intro A238 c239 W240 hS241
            have hS242 : St ⟨w, [], φ⟩ φ209 [.row (some ⟨b231, 0, none⟩) 1 3 1 (List.flatMap encI [y170]), .blk b145 59 [.int .i64 x135.X, .int .i64 x135.Y], .blk b81 155 (List.flatMap encT (a104.set y170.toNat true).l), .row A238 c239 3 1 (List.flatMap encI x235)] W240 := hS241
            refine OKS.r rfl rfl rfl rfl (fun _ => Runs.as rfl rfl) ?_
            refine OKS.e ?_
            refine blockQ_n ?_
            refine thenQ_n ?_
            refine CK.reg (ks := []) (.fl 0 (.fl 1 (.nil))) rfl ?_
            refine OKS.r rfl rfl rfl rfl (fun _ => Runs.to (Runs.addw rfl f220 rfl) (congrArg (Value.int .i64) hi134.out)) ?_
            refine OKS.r rfl rfl rfl rfl (fun _ => Runs.mv rfl rfl) ?_
            refine OKS.e ?_
            obtain rfl := Option.some.inj hm237
            exact thenQ_n ⟨rfl, _, rfl, ⟨φ209, A238, c239, rfl, f212, f213, rfl, rfl, f218, f219, (le125.trans le210), (hS242.pick [2, 3] _ (by decide) rfl)⟩⟩
          · have hm248 := hm166; rw [if_neg c222] at hm248; replace c222 := Hid.mk c222
            refine CK.condF (decF c222.out) ?_
            refine CK.skip ?_
            refine thenQ_n ?_
            refine CK.reg (ks := []) (.fl 0 (.fl 1 (.fx 2 (.fx 3 (.fl 4 (.nil)) .stop) .stop))) rfl ?_
            refine OKS.r rfl rfl rfl rfl (fun _ => Runs.mv rfl f215) ?_
            refine OKS.r rfl rfl rfl rfl (fun _ => Runs.mv rfl f217) ?_
            refine OKS.buildSlice (pv := [(0, .int .i64 y170)]) (zs := [.int .i64 0]) (cs := [.int .i64 y170]) rfl rfl rfl rfl rfl (mapcons2 rfl mapnil2) Try.runUnderlying23 Try.sizeOf3 Try.zeroValue3 rfl rfl rfl rfl rfl hS211 ?_
            intro W249 b250 hS251
            have hS253 : St ⟨w, [], φ⟩ φ209 [.row (some ⟨b250, 0, none⟩) 1 3 1 (List.flatMap encI [y170]), .blk b145 59 [.int .i64 x135.X, .int .i64 x135.Y], .blk b81 155 (List.flatMap encT a104.l), .row A107 c108 3 1 (List.flatMap encI l106)] W249 := hS251
            obtain ⟨x254, h255, hm256⟩ := bnd hm248
            refine OKS.append (j := 3) (enc := encI) (xs := l106) (ys := [y170]) (zs := x254) rfl rfl rfl rfl rfl Try.underlying23 info3 rfl rfl rfl rfl rfl rfl hS253 rfl rfl rfl (hS253.srcR (j := 0) rfl (by decide) (flatMap_len (f := encI) (sz := 1) (fun _ => rfl) [y170])) (fun _ => rfl) (fun _ => rfl) h255 rfl ?_
            intro A257 c258 W259 hS260
            have hS261 : St ⟨w, [], φ⟩ φ209 [.row (some ⟨b250, 0, none⟩) 1 3 1 (List.flatMap encI [y170]), .blk b145 59 [.int .i64 x135.X, .int .i64 x135.Y], .blk b81 155 (List.flatMap encT a104.l), .row A257 c258 3 1 (List.flatMap encI x254)] W259 := hS260
            refine OKS.r rfl rfl rfl rfl (fun _ => Runs.as rfl rfl) ?_
            refine OKS.e ?_
            refine blockQ_n ?_
            refine thenQ_n ?_
            refine CK.reg (ks := []) (.fl 0 (.fl 1 (.nil))) rfl ?_
            refine OKS.r rfl rfl rfl rfl (fun _ => Runs.to (Runs.addw rfl f220 rfl) (congrArg (Value.int .i64) hi134.out)) ?_
            refine OKS.r rfl rfl rfl rfl (fun _ => Runs.mv rfl rfl) ?_
            refine OKS.e ?_
            obtain rfl := Option.some.inj hm256
            exact thenQ_n ⟨rfl, _, rfl, ⟨φ209, A257, c258, rfl, f212, f213, f214, rfl, f218, f219, (le125.trans le210), (hS261.pick [2, 3] _ (by decide) rfl)⟩⟩
    · rintro ⟨y271, y272, y273⟩ σ267 W268 ⟨φ276, A274, c275, fi270, f279, f280, f281, f282, f283, f284, le277, hS278⟩ hb269
      have hm285 := jn_inl hm79 hX112 hb269
      try dsimp only at hm285
      have c286 : Hid (¬ ((↑(((↑p1.length : Int) : Int) - 0).toNat : Int) < (↑p1.length : Int))) := Hid.mk (lp_end0)
      refine CK.seq ?_
      refine CK.reg (ks := []) (.fl 0 (.nil)) rfl ?_
      refine OKS.r rfl rfl rfl rfl (fun _ => Runs.lss rfl fi270 f284) ?_
      refine OKS.e ?_
      refine thenQ_n ?_
      refine CK.seq ?_
      refine CK.condF (decF c286.out) ?_
      refine CK.exit ?_
      refine thenQ_e ?_
      refine thenQ_e ?_
      refine blockQ_h ?_
      refine thenQ_n ?_
      refine CK.seq ?_
      refine CK.reg (ks := []) (.fl 0 (.fl 1 (.fl 2 (.nil)))) rfl ?_
      refine OKS.r rfl rfl rfl rfl (fun _ => Runs.mv rfl f282) ?_
      refine OKS.r rfl rfl rfl rfl (fun _ => Runs.as rfl rfl) ?_
      refine OKS.r rfl rfl rfl rfl (fun _ => Runs.as rfl rfl) ?_
      refine OKS.e ?_
      refine thenQ_n ?_
      refine CK.ret ?_
      cases hm285
      exact ⟨rfl, _, (res2 rfl rfl), φ276, _, (hS278.pick [1] _ (by decide) rfl), A274, c275, rfl, rfl⟩

set_option maxHeartbeats 4000000 in
theorem w_klisterref03_outside (p0 : Int) (p1 : Int) (p2 : Int) (w : World) (φ : PHeap) (hS : St ⟨w, [], φ⟩ φ [] w)  {r : Bool} (hm : m_klisterref03_outside p0 p1 p2 = some r) : Gv Try.prog 88 [.int .i64 p0, .int .i64 p1, .int .i64 p2] w (RetS w [] φ (fun φ_ L_ v => v = .bool r ∧ L_ = [])) := by
  unfold m_klisterref03_outside at hm
  refine Gv.of Try.func88 rfl Try.ntmps88 Try.results88 rfl ?_
  refine CK.seq ?_
  refine CK.reg (ks := []) (.fl 0 (.nil)) rfl ?_
  refine OKS.r rfl rfl rfl rfl (fun _ => Runs.as rfl rfl) ?_
  refine OKS.e ?_
  refine thenQ_n ?_
  refine CK.seq ?_
  refine CK.reg (ks := []) (.fl 0 (.fl 1 (.fl 2 (.fl 3 (.fl 4 (.fl 5 (.fl 6 (.fl 7 (.fl 8 (.nil)))))))))) rfl ?_
  refine OKS.r rfl rfl rfl rfl (fun _ => Runs.mv rfl rfl) ?_
  refine OKS.r rfl rfl rfl rfl (fun _ => Runs.mv rfl rfl) ?_
  refine OKS.r rfl rfl rfl rfl (fun _ => Runs.lss rfl rfl rfl) ?_
  refine OKS.r rfl rfl rfl rfl (fun _ => Runs.mv rfl rfl) ?_
  by_cases c1 : p0 < p1
  · have hm2 := hm; rw [if_pos c1] at hm2; replace c1 := Hid.mk c1
    refine OKS.p rfl rfl rfl (wantedN rfl rfl (decT c1.out) rfl) ?_
    refine OKS.p rfl rfl rfl (wantedN rfl rfl (decT c1.out) rfl) ?_
    refine OKS.p rfl rfl rfl (wantedN rfl rfl (decT c1.out) rfl) ?_
    refine OKS.r rfl rfl rfl rfl (fun _ => Runs.pickT rfl (decT c1.out) rfl) ?_
    refine OKS.r rfl rfl rfl rfl (fun _ => Runs.as rfl rfl) ?_
    refine OKS.e ?_
    refine thenQ_n ?_
    refine CK.ret ?_
    cases hm2
    exact ⟨rfl, _, (res1 rfl), φ, _, hS, rfl, rfl⟩
  · have hm3 := hm; rw [if_neg c1] at hm3; replace c1 := Hid.mk c1
    refine OKS.r rfl rfl rfl (wantedY rfl rfl (decF c1.out)) (fun _ => Runs.mv rfl rfl) ?_
    refine OKS.r rfl rfl rfl (wantedY rfl rfl (decF c1.out)) (fun _ => Runs.mv rfl rfl) ?_
    refine OKS.r rfl rfl rfl (wantedY rfl rfl (decF c1.out)) (fun _ => Runs.gtr rfl rfl rfl) ?_
    refine OKS.r rfl rfl rfl rfl (fun _ => Runs.pickF rfl (decF c1.out) rfl) ?_
    refine OKS.r rfl rfl rfl rfl (fun _ => Runs.as rfl rfl) ?_
    refine OKS.e ?_
    refine thenQ_n ?_
    refine CK.ret ?_
    cases hm3
    exact ⟨rfl, _, (res1 rfl), φ, _, hS, rfl, rfl⟩

set_option maxHeartbeats 4000000 in
theorem w_klisterref03_Falls (p0 : Int) (p1 : List T_klisterref03_Shot) (pA1 : Option Addr) (pc1 : Nat) (w : World) (φ : PHeap) (hS : St ⟨w, [], φ⟩ φ [] w) (ha0 : Sl φ 2 pA1 pc1 p1.length (List.flatMap encT_klisterref03_Shot p1)) {r : (List Int) × Int} (hm : m_klisterref03_Falls p0 p1 = some r) : Gv Try.prog 33 [.int .i64 p0, .slice pA1 p1.length pc1] w (RetS w [] φ (fun φ_ L_ v => ∃ (A0 : Option Addr) (c0 : Nat), v = .tuple #[.slice A0 r.1.length c0, .int .i64 r.2] ∧ L_ = [.row A0 c0 3 1 (List.flatMap encI r.1)])) := by
  unfold m_klisterref03_Falls at hm
  refine Gv.of Try.func33 rfl Try.ntmps33 Try.results33 rfl ?_
  refine CK.seq ?_
  refine CK.reg (ks := []) (.fl 0 (.fl 1 (.nil))) rfl ?_
  refine OKS.r rfl rfl rfl rfl (fun _ => Runs.as rfl rfl) ?_
  refine OKS.r rfl rfl rfl rfl (fun _ => Runs.as rfl rfl) ?_
  refine OKS.e ?_
  refine thenQ_n ?_
  refine CK.seq ?_
  refine CK.seq ?_
  refine CK.reg (ks := []) (.fl 0 (.fx 1 (.nil) .stop)) rfl ?_
  refine OKS.r rfl rfl rfl rfl (fun _ => Runs.mv rfl rfl) ?_
  obtain ⟨x1, h2, hm3⟩ := bnd hm
  refine OKS.callH 0 rfl rfl rfl rfl (Enters.mk rfl rfl Try.call88 (mapcons rfl (mapcons rfl (mapcons rfl mapnil))) rfl) hS (fun hs => w_klisterref03_outside p0 0 1 w φ hs h2) (.inr rfl) ?_
  rintro φ4 L5 v6 W7 le8 hS9 ⟨rfl, rfl⟩
  have hS10 : St ⟨w, [], φ⟩ φ4 [] W7 := hS9
  refine OKS.e ?_
  refine thenQ_n ?_
  by_cases c11 : x1 = true
  · have hm12 := hm3; rw [if_pos c11] at hm12; replace c11 := Hid.mk c11
    refine CK.condT (congrArg Value.bool c11.out) ?_
    refine CK.seq ?_
    refine CK.reg (ks := []) (.fl 0 (.fl 1 (.nil))) rfl ?_
    refine OKS.r rfl rfl rfl rfl (fun _ => Runs.as rfl rfl) ?_
    refine OKS.r rfl rfl rfl rfl (fun _ => Runs.as rfl rfl) ?_
    refine OKS.e ?_
    refine thenQ_n ?_
    refine CK.ret ?_
    refine thenQ_r ?_
    have hS13 := hS10.nilrow 3 1
    cases hm12
    exact ⟨rfl, _, (res2 rfl rfl), φ4, _, hS13, none, 0, rfl, rfl⟩
  · have hm15 := hm3; rw [if_neg c11] at hm15; replace c11 := Hid.mk c11
    refine CK.condF (congrArg Value.bool (Bool.eq_false_iff.2 c11.out)) ?_
    refine CK.skip ?_
    refine thenQ_n ?_
    refine CK.seq ?_
    refine CK.seq ?_
    refine CK.reg (ks := []) (.fl 0 (.fl 1 (.fl 2 (.nil)))) rfl ?_
    refine OKS.r rfl rfl rfl rfl (fun _ => Runs.mv rfl rfl) ?_
    refine OKS.r rfl rfl rfl rfl (fun _ => Runs.len rfl rfl Try.runUnderlying60) ?_
    refine OKS.r rfl rfl rfl rfl (fun _ => Runs.gtr rfl rfl rfl) ?_
    refine OKS.e ?_
    refine thenQ_n ?_
    by_cases c16 : 8 < (↑p1.length : Int)
    · have hm17 := hm15; rw [if_pos c16] at hm17; replace c16 := Hid.mk c16
      refine CK.condT (decT c16.out) ?_
      refine CK.seq ?_
      refine CK.reg (ks := []) (.fl 0 (.fl 1 (.nil))) rfl ?_
      refine OKS.r rfl rfl rfl rfl (fun _ => Runs.as rfl rfl) ?_
      refine OKS.r rfl rfl rfl rfl (fun _ => Runs.as rfl rfl) ?_
      refine OKS.e ?_
      refine thenQ_n ?_
      refine CK.ret ?_
      refine thenQ_r ?_
      have hS18 := hS10.nilrow 3 1
      cases hm17
      exact ⟨rfl, _, (res2 rfl rfl), φ4, _, hS18, none, 0, rfl, rfl⟩
    · have hm20 := hm15; rw [if_neg c16] at hm20; replace c16 := Hid.mk c16
      refine CK.condF (decF c16.out) ?_
      refine CK.skip ?_
      refine thenQ_n ?_
      refine CK.seq ?_
      refine CK.seq ?_
      refine CK.reg (ks := []) (.fl 0 (.nil)) rfl ?_
      refine OKS.r rfl rfl rfl rfl (fun _ => Runs.as rfl rfl) ?_
      refine OKS.e ?_
      refine thenQ_n ?_
      refine CK.block ?_
      obtain ⟨r23, hX24⟩ := jn_some hm20
      obtain ⟨hle25, hf26⟩ := forR_le hX24
      replace hle25 := Hid.mk hle25
      refine CK.forN (fun k22 _ σ_ w_ => ∃ (φ_ : PHeap), σ_ 6 = .int .i64 (↑k22 : Int) ∧ σ_ 0 = .int .i64 p0 ∧ σ_ 1 = .slice pA1 p1.length pc1 ∧ PHeap.Le φ4 φ_ ∧ St ⟨w, [], φ⟩ φ_ [] w_) hf26 ?_ ?_ ?_
      · exact ⟨φ4, rfl, rfl, rfl, (PHeap.Le.refl _), hS10⟩
      · rintro k22 ⟨⟩ xx29 σ27 W28 hk32 ⟨φ34, fi33, f37, f38, le35, hS36⟩ hx30 hb31
        try dsimp only at hx30
        have c39 : Hid ((↑k22 : Int) < (↑p1.length : Int)) := Hid.mk (lp_lt0 hk32)
        replace hk32 := Hid.mk hk32
        have hi40 : Hid (w64 ((↑k22 : Int) + 1) = (↑(k22 + 1) : Int)) := Hid.mk (by have h1 := hle25.out; have h2 := c39.out; rw [w64_in] <;> omega)
        refine CK.seq ?_
        refine CK.seq ?_
        refine CK.reg (ks := []) (.fl 0 (.fl 1 (.fl 2 (.fl 3 (.nil))))) rfl ?_
        refine OKS.r rfl rfl rfl rfl (fun _ => Runs.mv rfl fi33) ?_
        refine OKS.r rfl rfl rfl rfl (fun _ => Runs.mv rfl f38) ?_
        refine OKS.r rfl rfl rfl rfl (fun _ => Runs.len rfl rfl Try.runUnderlying60) ?_
        refine OKS.r rfl rfl rfl rfl (fun _ => Runs.lss rfl rfl rfl) ?_
        refine OKS.e ?_
        refine thenQ_n ?_
        refine CK.condT (decT c39.out) ?_
        refine CK.skip ?_
        refine thenQ_n ?_
        refine CK.seq ?_
        refine CK.block ?_
        refine CK.seq ?_
        refine CK.reg (ks := []) (.fl 0 (.fl 1 (.fl 2 (.fl 3 (.fl 4 (.fx 5 (.fl 6 (.fl 7 (.fl 8 (.fl 9 (.fl 10 (.fl 11 (.fx 12 (.fl 13 (.nil)) .stop))))))) .stop)))))) rfl ?_
        refine OKS.r rfl rfl rfl rfl (fun _ => Runs.mv rfl f38) ?_
        refine OKS.r rfl rfl rfl rfl (fun _ => Runs.mv rfl fi33) ?_
        obtain ⟨x41, h42, hm43⟩ := bnd hx30
        have h44 := ha0.le le8
        have h45 := h44.le le35
        obtain ⟨b46, off47, hA48, hC49⟩ := h45.el (fun _ => rfl) (idx_get h42)
        refine OKS.r rfl rfl rfl rfl (fun _ => Runs.iaN rfl rfl hA48 rfl Try.runUnderlying60 Try.sizeOf61 (idx_lt h42)) ?_
        refine OKS.r rfl rfl rfl rfl (fun _ => Runs.fa rfl rfl Try.runUnderlying61 rfl Try.sizeOf3) ?_
        refine OKS.m rfl rfl rfl rfl (hS36.ldC (f := 0) hC49 (v := .int .i64 x41.X) rfl rfl Try.isAgg3 rfl) rfl ?_
        obtain ⟨x50, h51, hm52⟩ := bnd hm43
        refine OKS.callH 0 rfl rfl rfl rfl (Enters.mk rfl rfl Try.call88 (mapcons rfl (mapcons rfl (mapcons rfl mapnil))) rfl) hS36 (fun hs => w_klisterref03_outside x41.X (-20000) 20000 W28 φ34 hs h51) (.inr rfl) ?_
        rintro φ53 L54 v55 W56 le57 hS58 ⟨rfl, rfl⟩
        have hS59 : St ⟨w, [], φ⟩ φ53 [] W56 := hS58
        refine OKS.r rfl rfl rfl rfl (fun _ => Runs.mv rfl rfl) ?_
        by_cases c60 : x50 = true
        · have hm61 := hm52; rw [if_pos c60] at hm61; replace c60 := Hid.mk c60
          refine OKS.p rfl rfl rfl (wantedN rfl rfl (congrArg Value.bool c60.out) rfl) ?_
          refine OKS.p rfl rfl rfl (wantedN rfl rfl (congrArg Value.bool c60.out) rfl) ?_
          refine OKS.p rfl rfl rfl (wantedN rfl rfl (congrArg Value.bool c60.out) rfl) ?_
          refine OKS.p rfl rfl rfl (wantedN rfl rfl (congrArg Value.bool c60.out) rfl) ?_
          refine OKS.p rfl rfl rfl (wantedN rfl rfl (congrArg Value.bool c60.out) rfl) ?_
          refine OKS.px rfl rfl rfl (wantedN rfl rfl (congrArg Value.bool c60.out) rfl) ?_
          refine OKS.r rfl rfl rfl rfl (fun _ => Runs.pickT rfl (congrArg Value.bool c60.out) rfl) ?_
          refine OKS.e ?_
          refine thenQ_n ?_
          refine CK.condT rfl ?_
          refine CK.seq ?_
          refine CK.reg (ks := []) (.fl 0 (.fl 1 (.nil))) rfl ?_
          refine OKS.r rfl rfl rfl rfl (fun _ => Runs.as rfl rfl) ?_
          refine OKS.r rfl rfl rfl rfl (fun _ => Runs.as rfl rfl) ?_
          refine OKS.e ?_
          refine thenQ_n ?_
          refine CK.ret ?_
          refine blockQ_r ?_
          refine thenQ_r ?_
          obtain ⟨v62, hm63, e64⟩ := esc_spec hm61
          obtain rfl := jn_inr hm20 hX24 (hb31 v62 e64)
          refine thenQ_r ?_
          refine blockQ_r ?_
          refine thenQ_r ?_
          have hS65 := hS59.nilrow 3 1
          cases hm63
          exact ⟨rfl, _, (res2 rfl rfl), φ53, _, hS65, none, 0, rfl, rfl⟩
        · have hm67 := hm52; rw [if_neg c60] at hm67; replace c60 := Hid.mk c60
          refine OKS.r rfl rfl rfl (wantedY rfl rfl (congrArg Value.bool (Bool.eq_false_iff.2 c60.out))) (fun _ => Runs.mv rfl f38) ?_
          refine OKS.r rfl rfl rfl (wantedY rfl rfl (congrArg Value.bool (Bool.eq_false_iff.2 c60.out))) (fun _ => Runs.mv rfl fi33) ?_
          have h68 := h45.le le57
          obtain ⟨b69, off70, hA71, hC72⟩ := h68.el (fun _ => rfl) (idx_get h42)
          refine OKS.r rfl rfl rfl (wantedY rfl rfl (congrArg Value.bool (Bool.eq_false_iff.2 c60.out))) (fun _ => Runs.iaN rfl rfl hA71 rfl Try.runUnderlying60 Try.sizeOf61 (idx_lt h42)) ?_
          refine OKS.r rfl rfl rfl (wantedY rfl rfl (congrArg Value.bool (Bool.eq_false_iff.2 c60.out))) (fun _ => Runs.fa rfl rfl Try.runUnderlying61 rfl Try.sizeOf3) ?_
          refine OKS.m rfl rfl rfl (wantedY rfl rfl (congrArg Value.bool (Bool.eq_false_iff.2 c60.out))) (hS59.ldC (f := 1) hC72 (v := .int .i64 x41.Y) rfl rfl Try.isAgg3 rfl) rfl ?_
          obtain ⟨x73, h74, hm75⟩ := bnd hm67
          refine OKS.callH 0 rfl rfl rfl (wantedY rfl rfl (congrArg Value.bool (Bool.eq_false_iff.2 c60.out))) (Enters.mk rfl rfl Try.call88 (mapcons rfl (mapcons rfl (mapcons rfl mapnil))) rfl) hS59 (fun hs => w_klisterref03_outside x41.Y (-20000) 20000 W56 φ53 hs h74) (.inr rfl) ?_
          rintro φ76 L77 v78 W79 le80 hS81 ⟨rfl, rfl⟩
          have hS82 : St ⟨w, [], φ⟩ φ76 [] W79 := hS81
          refine OKS.r rfl rfl rfl rfl (fun _ => Runs.pickF rfl (congrArg Value.bool (Bool.eq_false_iff.2 c60.out)) rfl) ?_
          refine OKS.e ?_
          refine thenQ_n ?_
          by_cases c83 : x73 = true
          · have hm84 := hm75; rw [if_pos c83] at hm84; replace c83 := Hid.mk c83
            refine CK.condT (congrArg Value.bool c83.out) ?_
            refine CK.seq ?_
            refine CK.reg (ks := []) (.fl 0 (.fl 1 (.nil))) rfl ?_
            refine OKS.r rfl rfl rfl rfl (fun _ => Runs.as rfl rfl) ?_
            refine OKS.r rfl rfl rfl rfl (fun _ => Runs.as rfl rfl) ?_
            refine OKS.e ?_
            refine thenQ_n ?_
            refine CK.ret ?_
            refine blockQ_r ?_
            refine thenQ_r ?_
            obtain ⟨v85, hm86, e87⟩ := esc_spec hm84
            obtain rfl := jn_inr hm20 hX24 (hb31 v85 e87)
            refine thenQ_r ?_
            refine blockQ_r ?_
            refine thenQ_r ?_
            have hS88 := hS82.nilrow 3 1
            cases hm86
            exact ⟨rfl, _, (res2 rfl rfl), φ76, _, hS88, none, 0, rfl, rfl⟩
          · have hm90 := hm75; rw [if_neg c83] at hm90; replace c83 := Hid.mk c83
            refine CK.condF (congrArg Value.bool (Bool.eq_false_iff.2 c83.out)) ?_
            refine CK.skip ?_
            refine blockQ_n ?_
            refine thenQ_n ?_
            refine CK.reg (ks := []) (.fl 0 (.fl 1 (.fl 2 (.nil)))) rfl ?_
            refine OKS.r rfl rfl rfl rfl (fun _ => Runs.mv rfl fi33) ?_
            refine OKS.r rfl rfl rfl rfl (fun _ => Runs.to (Runs.addw rfl rfl rfl) (congrArg (Value.int .i64) hi40.out)) ?_
            refine OKS.r rfl rfl rfl rfl (fun _ => Runs.as rfl rfl) ?_
            refine OKS.e ?_
            obtain rfl := Option.some.inj hm90
            exact thenQ_n ⟨rfl, _, rfl, ⟨φ76, rfl, f37, f38, ((le35.trans le57).trans le80), hS82⟩⟩
      · rintro ⟨⟩ σ91 W92 ⟨φ95, fi94, f98, f99, le96, hS97⟩ hb93
        have hm100 := jn_inl hm20 hX24 hb93
        try dsimp only at hm100
        have c101 : Hid (¬ ((↑(((↑p1.length : Int) : Int) - 0).toNat : Int) < (↑p1.length : Int))) := Hid.mk (lp_end0)
        refine CK.seq ?_
        refine CK.seq ?_
        refine CK.reg (ks := []) (.fl 0 (.fl 1 (.fl 2 (.fl 3 (.nil))))) rfl ?_
        refine OKS.r rfl rfl rfl rfl (fun _ => Runs.mv rfl fi94) ?_
        refine OKS.r rfl rfl rfl rfl (fun _ => Runs.mv rfl f99) ?_
        refine OKS.r rfl rfl rfl rfl (fun _ => Runs.len rfl rfl Try.runUnderlying60) ?_
        refine OKS.r rfl rfl rfl rfl (fun _ => Runs.lss rfl rfl rfl) ?_
        refine OKS.e ?_
        refine thenQ_n ?_
        refine CK.condF (decF c101.out) ?_
        refine CK.exit ?_
        refine thenQ_e ?_
        refine thenQ_e ?_
        refine blockQ_h ?_
        refine thenQ_n ?_
        refine CK.seq ?_
        refine CK.reg (ks := []) (.fl 0 (.nil)) rfl ?_
        refine OKS.r rfl rfl rfl rfl (fun _ => Runs.as rfl rfl) ?_
        refine OKS.e ?_
        refine thenQ_n ?_
        refine CK.seq ?_
        refine CK.seq ?_
        refine CK.reg (ks := []) (.fl 0 (.fl 1 (.nil))) rfl ?_
        refine OKS.r rfl rfl rfl rfl (fun _ => Runs.mv rfl f98) ?_
        refine OKS.r rfl rfl rfl rfl (fun _ => Runs.eql rfl rfl rfl) ?_
        refine OKS.e ?_
        refine thenQ_n ?_
        by_cases c102 : p0 = 1
        · have hm103 := hm100; rw [if_pos c102] at hm103; replace c102 := Hid.mk c102
          refine CK.condT (decT c102.out) ?_
          refine CK.reg (ks := []) (.fl 0 (.nil)) rfl ?_
          refine OKS.r rfl rfl rfl rfl (fun _ => Runs.as rfl rfl) ?_
          refine OKS.e ?_
          refine thenQ_n ?_
          refine CK.seq ?_
          refine CK.reg (ks := []) (.fl 0 (.nil)) rfl ?_
          refine OKS.r rfl rfl rfl rfl (fun _ => Runs.as rfl rfl) ?_
          refine OKS.e ?_
          refine thenQ_n ?_
          refine CK.seq ?_
          refine CK.seq ?_
          refine CK.reg (ks := []) (.fl 0 (.nil)) rfl ?_
          refine OKS.r rfl rfl rfl rfl (fun _ => Runs.as rfl rfl) ?_
          refine OKS.e ?_
          refine thenQ_n ?_
          refine CK.block ?_
          obtain ⟨r122, hX123⟩ := jn_some hm103
          obtain ⟨hle124, hf125⟩ := forR_le hX123
          replace hle124 := Hid.mk hle124
          refine CK.forN (fun k121 l117 σ_ w_ => ∃ (φ_ : PHeap) (A118 : Option Addr) (c119 : Nat), σ_ 9 = .int .i64 (↑k121 : Int) ∧ σ_ 1 = .slice pA1 p1.length pc1 ∧ σ_ 7 = .int .i64 575 ∧ σ_ 8 = .slice A118 l117.length c119 ∧ PHeap.Le φ95 φ_ ∧ St ⟨w, [], φ⟩ φ_ [.row A118 c119 3 1 (List.flatMap encI l117)] w_) hf125 ?_ ?_ ?_
          · have hS126 := hS97.nilrow 3 1
            exact ⟨φ95, none, 0, rfl, f99, rfl, rfl, (PHeap.Le.refl _), hS126⟩
          · rintro k121 l117 xx130 σ128 W129 hk133 ⟨φ135, A118, c119, fi134, f138, f139, f140, le136, hS137⟩ hx131 hb132
            have c141 : Hid ((↑k121 : Int) < (↑p1.length : Int)) := Hid.mk (lp_lt0 hk133)
            replace hk133 := Hid.mk hk133
            have hi142 : Hid (w64 ((↑k121 : Int) + 1) = (↑(k121 + 1) : Int)) := Hid.mk (by have h1 := hle124.out; have h2 := c141.out; rw [w64_in] <;> omega)
            refine CK.seq ?_
            refine CK.seq ?_
            refine CK.reg (ks := []) (.fl 0 (.fl 1 (.fl 2 (.fl 3 (.nil))))) rfl ?_
            refine OKS.r rfl rfl rfl rfl (fun _ => Runs.mv rfl fi134) ?_
            refine OKS.r rfl rfl rfl rfl (fun _ => Runs.mv rfl f138) ?_
            refine OKS.r rfl rfl rfl rfl (fun _ => Runs.len rfl rfl Try.runUnderlying60) ?_
            refine OKS.r rfl rfl rfl rfl (fun _ => Runs.lss rfl rfl rfl) ?_
            refine OKS.e ?_
            refine thenQ_n ?_
            refine CK.condT (decT c141.out) ?_
            refine CK.skip ?_
            refine thenQ_n ?_
            refine CK.seq ?_
            refine CK.block ?_
            refine CK.seq ?_
            refine CK.reg (ks := []) (.fl 0 (.nil)) rfl ?_
            refine OKS.r rfl rfl rfl rfl (fun _ => Runs.as rfl rfl) ?_
            refine OKS.e ?_
            refine thenQ_n ?_
            refine CK.seq ?_
            refine CK.reg (ks := []) (.fl 0 (.nil)) rfl ?_
            refine OKS.r rfl rfl rfl rfl (fun _ => Runs.as rfl rfl) ?_
            refine OKS.e ?_
            refine thenQ_n ?_
            refine CK.seq ?_
            refine CK.seq ?_
            refine CK.reg (ks := []) (.fl 0 (.nil)) rfl ?_
            refine OKS.r rfl rfl rfl rfl (fun _ => Runs.as rfl rfl) ?_
            refine OKS.e ?_
            refine thenQ_n ?_
            refine CK.block ?_
            obtain ⟨⟨y158, y159⟩, hf155, hm154⟩ := bnd hx131
            try dsimp only at hm154
            obtain ⟨hle156, hf157⟩ := forR'_le hf155
            replace hle156 := Hid.mk hle156
            refine CK.forN' (fun k153 (x151, x152) σ_ w_ => ∃ (φ_ : PHeap), σ_ 12 = .int .i64 (1 + ↑k153 : Int) ∧ σ_ 1 = .slice pA1 p1.length pc1 ∧ σ_ 7 = .int .i64 575 ∧ σ_ 8 = .slice A118 l117.length c119 ∧ σ_ 9 = .int .i64 (↑k121 : Int) ∧ σ_ 10 = .int .i64 x151 ∧ σ_ 11 = .int .i64 x152 ∧ PHeap.Le φ135 φ_ ∧ St ⟨w, [], φ⟩ φ_ [.row A118 c119 3 1 (List.flatMap encI l117)] w_) hf157 ?_ ?_ ?_
            · exact ⟨φ135, rfl, f138, f139, f140, fi134, rfl, rfl, (PHeap.Le.refl _), hS137⟩
            · rintro k153 ⟨x151, x152⟩ xx162 σ160 W161 hk165 ⟨φ167, fi166, f170, f171, f172, f173, f174, f175, le168, hS169⟩ hx163
              try dsimp only at hx163
              have c176 : Hid ((1 + ↑k153 : Int) ≤ 5) := Hid.mk (lp_le hk165)
              replace hk165 := Hid.mk hk165
              have hi177 : Hid (w64 ((1 + ↑k153 : Int) + 1) = (1 + ↑(k153 + 1) : Int)) := Hid.mk (by have h1 := hle156.out; have h2 := c176.out; rw [w64_in] <;> omega)
              refine CK.seq ?_
              refine CK.seq ?_
              refine CK.reg (ks := []) (.fl 0 (.fl 1 (.nil))) rfl ?_
              refine OKS.r rfl rfl rfl rfl (fun _ => Runs.mv rfl fi166) ?_
              refine OKS.r rfl rfl rfl rfl (fun _ => Runs.leq rfl rfl rfl) ?_
              refine OKS.e ?_
              refine thenQ_n ?_
              refine CK.condT (decT c176.out) ?_
              refine CK.skip ?_
              refine thenQ_n ?_
              refine CK.seq ?_
              refine CK.block ?_
              refine CK.seq ?_
              refine CK.anyOrd Try.mixed [3, 3, 3, 3, 1, 3, 3, 3, 3, 3, 3, 3, 3, 1, 3, 3] (.fl 0 (.fl 1 (.fl 2 (.fl 3 (.fl 4 (.fl 5 (.fl 6 (.fl 7 (.fl 8 (.fl 9 (.fl 10 (.fl 11 (.fl 12 (.fl 13 (.fl 14 (.fl 15 (.nil))))))))))))))))) (by kernel_rfl) ?_
              have hS178 := hS169.drew
              generalize hw_W179 : ({ W161 with drawn := W161.drawn + 1 } : World) = W179 at hS178 ⊢
              refine OKS.r rfl rfl rfl rfl (fun _ => Runs.mv rfl f170) ?_
              refine OKS.r rfl rfl rfl rfl (fun _ => Runs.mv rfl f173) ?_
              obtain ⟨x180, h181, hm182⟩ := bnd hx163
              have h183 := ha0.le le8
              have h184 := h183.le le96
              have h185 := h184.le le136
              have h186 := h185.le le168
              obtain ⟨b187, off188, hA189, hC190⟩ := h186.el (fun _ => rfl) (idx_get h181)
              refine OKS.r rfl rfl rfl rfl (fun _ => Runs.iaN rfl rfl hA189 rfl Try.runUnderlying60 Try.sizeOf61 (idx_lt h181)) ?_
              refine OKS.r rfl rfl rfl rfl (fun _ => Runs.fa rfl rfl Try.runUnderlying61 rfl Try.sizeOf3) ?_
              refine OKS.m rfl rfl rfl rfl (hS178.ldC (f := 0) hC190 (v := .int .i64 x180.X) rfl rfl Try.isAgg3 rfl) rfl ?_
              refine OKS.r rfl rfl rfl rfl (fun _ => Runs.mv rfl fi166) ?_
              refine OKS.r rfl rfl rfl rfl (fun _ => Runs.subw rfl rfl rfl) ?_
              refine OKS.r rfl rfl rfl rfl (fun _ => Runs.mulw rfl rfl rfl) ?_
              refine OKS.r rfl rfl rfl rfl (fun _ => Runs.subw rfl rfl rfl) ?_
              refine OKS.r rfl rfl rfl rfl (fun _ => Runs.mv rfl f170) ?_
              refine OKS.r rfl rfl rfl rfl (fun _ => Runs.mv rfl f173) ?_
              obtain ⟨b191, off192, hA193, hC194⟩ := h186.el (fun _ => rfl) (idx_get h181)
              refine OKS.r rfl rfl rfl rfl (fun _ => Runs.iaN rfl rfl hA193 rfl Try.runUnderlying60 Try.sizeOf61 (idx_lt h181)) ?_
              refine OKS.r rfl rfl rfl rfl (fun _ => Runs.fa rfl rfl Try.runUnderlying61 rfl Try.sizeOf3) ?_
              refine OKS.m rfl rfl rfl rfl (hS178.ldC (f := 1) hC194 (v := .int .i64 x180.Y) rfl rfl Try.isAgg3 rfl) rfl ?_
              refine OKS.r rfl rfl rfl rfl (fun _ => Runs.as rfl rfl) ?_
              refine OKS.r rfl rfl rfl rfl (fun _ => Runs.as rfl rfl) ?_
              refine OKS.e ?_
              refine thenQ_n ?_
              refine CK.seq ?_
              refine CK.reg (ks := []) (.fl 0 (.fl 1 (.fl 2 (.fl 3 (.fl 4 (.fl 5 (.fl 6 (.fl 7 (.fl 8 (.fl 9 (.fl 10 (.fl 11 (.nil))))))))))))) rfl ?_
              refine OKS.r rfl rfl rfl rfl (fun _ => Runs.mv rfl rfl) ?_
              refine OKS.r rfl rfl rfl rfl (fun _ => Runs.mv rfl rfl) ?_
              refine OKS.r rfl rfl rfl rfl (fun _ => Runs.mulw rfl rfl rfl) ?_
              refine OKS.r rfl rfl rfl rfl (fun _ => Runs.mv rfl rfl) ?_
              refine OKS.r rfl rfl rfl rfl (fun _ => Runs.mv rfl rfl) ?_
              refine OKS.r rfl rfl rfl rfl (fun _ => Runs.mulw rfl rfl rfl) ?_
              refine OKS.r rfl rfl rfl rfl (fun _ => Runs.addw rfl rfl rfl) ?_
              refine OKS.r rfl rfl rfl rfl (fun _ => Runs.mv rfl f171) ?_
              refine OKS.r rfl rfl rfl rfl (fun _ => Runs.mv rfl f171) ?_
              refine OKS.r rfl rfl rfl rfl (fun _ => Runs.to (Runs.mulw rfl rfl rfl) (congrArg (Value.int .i64) (show w64 (575 * 575) = 330625 by decide))) ?_
              refine OKS.r rfl rfl rfl rfl (fun _ => Runs.leq rfl rfl rfl) ?_
              refine OKS.r rfl rfl rfl rfl (fun _ => Runs.as rfl rfl) ?_
              refine OKS.e ?_
              refine thenQ_n ?_
              refine CK.seq ?_
              refine CK.seq ?_
              refine CK.reg (ks := []) (.fl 0 (.nil)) rfl ?_
              refine OKS.r rfl rfl rfl rfl (fun _ => Runs.as rfl rfl) ?_
              refine OKS.e ?_
              refine thenQ_n ?_
              refine CK.block ?_
              obtain ⟨⟨y210, y211⟩, hf207, hm206⟩ := bnd hm182
              try dsimp only at hm206
              obtain ⟨hle208, hf209⟩ := forR'_le hf207
              replace hle208 := Hid.mk hle208
              refine CK.forN' (fun k205 (x203, b204) σ_ w_ => ∃ (φ_ : PHeap), σ_ 16 = .int .i64 (↑k205 : Int) ∧ σ_ 1 = .slice pA1 p1.length pc1 ∧ σ_ 7 = .int .i64 575 ∧ σ_ 8 = .slice A118 l117.length c119 ∧ σ_ 9 = .int .i64 (↑k121 : Int) ∧ σ_ 10 = .int .i64 x151 ∧ σ_ 11 = .int .i64 x203 ∧ σ_ 12 = .int .i64 (1 + ↑k153 : Int) ∧ σ_ 15 = .bool b204 ∧ PHeap.Le φ167 φ_ ∧ St ⟨w, [], φ⟩ φ_ [.row A118 c119 3 1 (List.flatMap encI l117)] w_) hf209 ?_ ?_ ?_
              · exact ⟨φ167, rfl, f170, f171, f172, f173, f174, f175, fi166, rfl, (PHeap.Le.refl _), hS178⟩
              · rintro k205 ⟨x203, b204⟩ xx214 σ212 W213 hk217 ⟨φ219, fi218, f222, f223, f224, f225, f226, f227, f228, f229, le220, hS221⟩ hx215
                try dsimp only at hx215
                have c230 : Hid ((↑k205 : Int) < (↑k121 : Int)) := Hid.mk (lp_lt0 hk217)
                replace hk217 := Hid.mk hk217
                have hi231 : Hid (w64 ((↑k205 : Int) + 1) = (↑(k205 + 1) : Int)) := Hid.mk (by have h1 := hle208.out; have h2 := c230.out; rw [w64_in] <;> omega)
                refine CK.seq ?_
                refine CK.seq ?_
                refine CK.reg (ks := []) (.fl 0 (.fl 1 (.fl 2 (.nil)))) rfl ?_
                refine OKS.r rfl rfl rfl rfl (fun _ => Runs.mv rfl fi218) ?_
                refine OKS.r rfl rfl rfl rfl (fun _ => Runs.mv rfl f225) ?_
                refine OKS.r rfl rfl rfl rfl (fun _ => Runs.lss rfl rfl rfl) ?_
                refine OKS.e ?_
                refine thenQ_n ?_
                refine CK.condT (decT c230.out) ?_
                refine CK.skip ?_
                refine thenQ_n ?_
                refine CK.seq ?_
                refine CK.block ?_
                refine CK.seq ?_
                refine CK.reg (ks := []) (.fl 0 (.fl 1 (.fl 2 (.fl 3 (.fl 4 (.fl 5 (.nil))))))) rfl ?_
                refine OKS.r rfl rfl rfl rfl (fun _ => Runs.mv rfl f224) ?_
                refine OKS.r rfl rfl rfl rfl (fun _ => Runs.mv rfl fi218) ?_
                obtain ⟨_, h232, hm233⟩ := bnd hx215
                obtain ⟨b234, hA235⟩ := hS221.rowSome (j := 0) rfl (by rw [flatMap_len (f := encI) (sz := 1) (fun _ => rfl) l117]; have hz := chk_lt h232; omega)
                refine OKS.r rfl rfl rfl rfl (fun _ => Runs.iaN rfl rfl hA235 rfl Try.runUnderlying23 Try.sizeOf3 (chk_lt h232)) ?_
                have hg236 := gd_at (xs := l117) (chk_lt h232)
                refine OKS.m rfl rfl rfl rfl (hS221.ldR (j := 0) rfl hA235 rfl rfl Try.isAgg3 (flatMap_cell (sz := 1) (fun _ => rfl) _ _ 0 _ hg236 (by omega) rfl)) rfl ?_
                refine OKS.r rfl rfl rfl rfl (fun _ => Runs.mv rfl f228) ?_
                refine OKS.r rfl rfl rfl rfl (fun _ => Runs.eql rfl rfl rfl) ?_
                refine OKS.e ?_
                refine thenQ_n ?_
                by_cases c237 : (gd l117 k205) = (1 + ↑k153 : Int)
                · have hm238 := hm233; rw [if_pos c237] at hm238; replace c237 := Hid.mk c237
                  refine CK.condT (decT c237.out) ?_
                  refine CK.seq ?_
                  refine CK.reg (ks := []) (.fl 0 (.nil)) rfl ?_
                  refine OKS.r rfl rfl rfl rfl (fun _ => Runs.as rfl rfl) ?_
                  refine OKS.e ?_
                  refine thenQ_n ?_
                  refine CK.reg (ks := []) (.fl 0 (.fl 1 (.fl 2 (.nil)))) rfl ?_
                  refine OKS.r rfl rfl rfl rfl (fun _ => Runs.mv rfl f227) ?_
                  refine OKS.r rfl rfl rfl rfl (fun _ => Runs.subw rfl rfl rfl) ?_
                  refine OKS.r rfl rfl rfl rfl (fun _ => Runs.as rfl rfl) ?_
                  refine OKS.e ?_
                  refine blockQ_n ?_
                  refine thenQ_n ?_
                  refine CK.reg (ks := []) (.fl 0 (.fl 1 (.fl 2 (.nil)))) rfl ?_
                  refine OKS.r rfl rfl rfl rfl (fun _ => Runs.mv rfl fi218) ?_
                  refine OKS.r rfl rfl rfl rfl (fun _ => Runs.to (Runs.addw rfl rfl rfl) (congrArg (Value.int .i64) hi231.out)) ?_
                  refine OKS.r rfl rfl rfl rfl (fun _ => Runs.as rfl rfl) ?_
                  refine OKS.e ?_
                  cases hm238
                  exact thenQ_n ⟨rfl, ⟨φ219, rfl, f222, f223, f224, f225, f226, rfl, f228, rfl, le220, hS221⟩⟩
                · have hm241 := hm233; rw [if_neg c237] at hm241; replace c237 := Hid.mk c237
                  refine CK.condF (decF c237.out) ?_
                  refine CK.skip ?_
                  refine blockQ_n ?_
                  refine thenQ_n ?_
                  refine CK.reg (ks := []) (.fl 0 (.fl 1 (.fl 2 (.nil)))) rfl ?_
                  refine OKS.r rfl rfl rfl rfl (fun _ => Runs.mv rfl fi218) ?_
                  refine OKS.r rfl rfl rfl rfl (fun _ => Runs.to (Runs.addw rfl rfl rfl) (congrArg (Value.int .i64) hi231.out)) ?_
                  refine OKS.r rfl rfl rfl rfl (fun _ => Runs.as rfl rfl) ?_
                  refine OKS.e ?_
                  cases hm241
                  exact thenQ_n ⟨rfl, ⟨φ219, rfl, f222, f223, f224, f225, f226, f227, f228, f229, le220, hS221⟩⟩
              · rintro σ244 W245 ⟨φ250, fi247, f253, f254, f255, f256, f257, f258, f259, f260, le251, hS252⟩
                have c261 : Hid (¬ ((↑(((↑k121 : Int) : Int) - 0).toNat : Int) < (↑k121 : Int))) := Hid.mk (lp_end0)
                refine CK.seq ?_
                refine CK.seq ?_
                refine CK.reg (ks := []) (.fl 0 (.fl 1 (.fl 2 (.nil)))) rfl ?_
                refine OKS.r rfl rfl rfl rfl (fun _ => Runs.mv rfl fi247) ?_
                refine OKS.r rfl rfl rfl rfl (fun _ => Runs.mv rfl f256) ?_
                refine OKS.r rfl rfl rfl rfl (fun _ => Runs.lss rfl rfl rfl) ?_
                refine OKS.e ?_
                refine thenQ_n ?_
                refine CK.condF (decF c261.out) ?_
                refine CK.exit ?_
                refine thenQ_e ?_
                refine thenQ_e ?_
                refine blockQ_h ?_
                refine thenQ_n ?_
                refine CK.seq ?_
                refine CK.reg (ks := []) (.fl 0 (.nil)) rfl ?_
                refine OKS.r rfl rfl rfl rfl (fun _ => Runs.mv rfl f260) ?_
                refine OKS.e ?_
                refine thenQ_n ?_
                by_cases c262 : y211 = true
                · have hm263 := hm206; rw [if_pos c262] at hm263; replace c262 := Hid.mk c262
                  refine CK.condT (congrArg Value.bool c262.out) ?_
                  refine CK.reg (ks := []) (.fl 0 (.fl 1 (.nil))) rfl ?_
                  refine OKS.r rfl rfl rfl rfl (fun _ => Runs.mv rfl f259) ?_
                  refine OKS.r rfl rfl rfl rfl (fun _ => Runs.as rfl rfl) ?_
                  refine OKS.e ?_
                  refine blockQ_n ?_
                  refine thenQ_n ?_
                  refine CK.reg (ks := []) (.fl 0 (.fl 1 (.fl 2 (.nil)))) rfl ?_
                  refine OKS.r rfl rfl rfl rfl (fun _ => Runs.mv rfl f259) ?_
                  refine OKS.r rfl rfl rfl rfl (fun _ => Runs.to (Runs.addw rfl rfl rfl) (congrArg (Value.int .i64) hi177.out)) ?_
                  refine OKS.r rfl rfl rfl rfl (fun _ => Runs.as rfl rfl) ?_
                  refine OKS.e ?_
                  cases hm263
                  exact thenQ_n ⟨rfl, ⟨φ250, rfl, f253, f254, f255, f256, rfl, f258, (le168.trans le251), hS252⟩⟩
                · have hm266 := hm206; rw [if_neg c262] at hm266; replace c262 := Hid.mk c262
                  refine CK.condF (congrArg Value.bool (Bool.eq_false_iff.2 c262.out)) ?_
                  refine CK.skip ?_
                  refine blockQ_n ?_
                  refine thenQ_n ?_
                  refine CK.reg (ks := []) (.fl 0 (.fl 1 (.fl 2 (.nil)))) rfl ?_
                  refine OKS.r rfl rfl rfl rfl (fun _ => Runs.mv rfl f259) ?_
                  refine OKS.r rfl rfl rfl rfl (fun _ => Runs.to (Runs.addw rfl rfl rfl) (congrArg (Value.int .i64) hi177.out)) ?_
                  refine OKS.r rfl rfl rfl rfl (fun _ => Runs.as rfl rfl) ?_
                  refine OKS.e ?_
                  cases hm266
                  exact thenQ_n ⟨rfl, ⟨φ250, rfl, f253, f254, f255, f256, f257, f258, (le168.trans le251), hS252⟩⟩
            · rintro σ269 W270 ⟨φ275, fi272, f278, f279, f280, f281, f282, f283, le276, hS277⟩
              have c284 : Hid (¬ ((1 + ↑(((5 + 1) : Int) - 1).toNat : Int) ≤ 5)) := Hid.mk (lp_end_le)
              refine CK.seq ?_
              refine CK.seq ?_
              refine CK.reg (ks := []) (.fl 0 (.fl 1 (.nil))) rfl ?_
              refine OKS.r rfl rfl rfl rfl (fun _ => Runs.mv rfl fi272) ?_
              refine OKS.r rfl rfl rfl rfl (fun _ => Runs.leq rfl rfl rfl) ?_
              refine OKS.e ?_
              refine thenQ_n ?_
              refine CK.condF (decF c284.out) ?_
              refine CK.exit ?_
              refine thenQ_e ?_
              refine thenQ_e ?_
              refine blockQ_h ?_
              refine thenQ_n ?_
              refine CK.seq ?_
              refine CK.seq ?_
              refine CK.reg (ks := []) (.fl 0 (.fl 1 (.nil))) rfl ?_
              refine OKS.r rfl rfl rfl rfl (fun _ => Runs.mv rfl f283) ?_
              refine OKS.r rfl rfl rfl rfl (fun _ => Runs.eql rfl rfl rfl) ?_
              refine OKS.e ?_
              refine thenQ_n ?_
              by_cases c285 : y159 = 0
              · have hm286 := hm154; rw [if_pos c285] at hm286; replace c285 := Hid.mk c285
                refine CK.condT (decT c285.out) ?_
                refine CK.seq ?_
                refine CK.reg (ks := []) (.fl 0 (.fl 1 (.nil))) rfl ?_
                refine OKS.r rfl rfl rfl rfl (fun _ => Runs.as rfl rfl) ?_
                refine OKS.r rfl rfl rfl rfl (fun _ => Runs.as rfl rfl) ?_
                refine OKS.e ?_
                refine thenQ_n ?_
                refine CK.ret ?_
                refine thenQ_r ?_
                refine blockQ_r ?_
                refine thenQ_r ?_
                obtain ⟨v287, hm288, e289⟩ := esc_spec hm286
                obtain rfl := jn_inr hm103 hX123 (hb132 v287 e289)
                refine thenQ_r ?_
                refine blockQ_r ?_
                refine thenQ_r ?_
                have hS290 := hS277.nilrow 3 1
                cases hm288
                exact ⟨rfl, _, (res2 rfl rfl), φ275, _, (hS290.pick [0] _ (by decide) rfl), none, 0, rfl, rfl⟩
              · have hm292 := hm154; rw [if_neg c285] at hm292; replace c285 := Hid.mk c285
                refine CK.condF (decF c285.out) ?_
                refine CK.skip ?_
                refine thenQ_n ?_
                refine CK.reg (ks := []) (.fl 0 (.fl 1 (.fx 2 (.fx 3 (.fl 4 (.nil)) .stop) .stop))) rfl ?_
                refine OKS.r rfl rfl rfl rfl (fun _ => Runs.mv rfl f280) ?_
                refine OKS.r rfl rfl rfl rfl (fun _ => Runs.mv rfl f282) ?_
                refine OKS.buildSlice (pv := [(0, .int .i64 y158)]) (zs := [.int .i64 0]) (cs := [.int .i64 y158]) rfl rfl rfl rfl rfl (mapcons2 rfl mapnil2) Try.runUnderlying23 Try.sizeOf3 Try.zeroValue3 rfl rfl rfl rfl rfl hS277 ?_
                intro W293 b294 hS295
                have hS297 : St ⟨w, [], φ⟩ φ275 [.row (some ⟨b294, 0, none⟩) 1 3 1 (List.flatMap encI [y158]), .row A118 c119 3 1 (List.flatMap encI l117)] W293 := hS295
                obtain ⟨x298, h299, hm300⟩ := bnd hm292
                refine OKS.append (j := 1) (enc := encI) (xs := l117) (ys := [y158]) (zs := x298) rfl rfl rfl rfl rfl Try.underlying23 info3 rfl rfl rfl rfl rfl rfl hS297 rfl rfl rfl (hS297.srcR (j := 0) rfl (by decide) (flatMap_len (f := encI) (sz := 1) (fun _ => rfl) [y158])) (fun _ => rfl) (fun _ => rfl) h299 rfl ?_
                intro A301 c302 W303 hS304
                have hS305 : St ⟨w, [], φ⟩ φ275 [.row (some ⟨b294, 0, none⟩) 1 3 1 (List.flatMap encI [y158]), .row A301 c302 3 1 (List.flatMap encI x298)] W303 := hS304
                refine OKS.r rfl rfl rfl rfl (fun _ => Runs.as rfl rfl) ?_
                refine OKS.e ?_
                refine blockQ_n ?_
                refine thenQ_n ?_
                refine CK.reg (ks := []) (.fl 0 (.fl 1 (.fl 2 (.nil)))) rfl ?_
                refine OKS.r rfl rfl rfl rfl (fun _ => Runs.mv rfl f281) ?_
                refine OKS.r rfl rfl rfl rfl (fun _ => Runs.to (Runs.addw rfl rfl rfl) (congrArg (Value.int .i64) hi142.out)) ?_
                refine OKS.r rfl rfl rfl rfl (fun _ => Runs.as rfl rfl) ?_
                refine OKS.e ?_
                obtain rfl := Option.some.inj hm300
                exact thenQ_n ⟨rfl, _, rfl, ⟨φ275, A301, c302, rfl, f278, f279, rfl, (le136.trans le276), (hS305.pick [1] _ (by decide) rfl)⟩⟩
          · rintro y313 σ309 W310 ⟨φ316, A314, c315, fi312, f319, f320, f321, le317, hS318⟩ hb311
            have hm322 := jn_inl hm103 hX123 hb311
            have c323 : Hid (¬ ((↑(((↑p1.length : Int) : Int) - 0).toNat : Int) < (↑p1.length : Int))) := Hid.mk (lp_end0)
            refine CK.seq ?_
            refine CK.seq ?_
            refine CK.reg (ks := []) (.fl 0 (.fl 1 (.fl 2 (.fl 3 (.nil))))) rfl ?_
            refine OKS.r rfl rfl rfl rfl (fun _ => Runs.mv rfl fi312) ?_
            refine OKS.r rfl rfl rfl rfl (fun _ => Runs.mv rfl f319) ?_
            refine OKS.r rfl rfl rfl rfl (fun _ => Runs.len rfl rfl Try.runUnderlying60) ?_
            refine OKS.r rfl rfl rfl rfl (fun _ => Runs.lss rfl rfl rfl) ?_
            refine OKS.e ?_
            refine thenQ_n ?_
            refine CK.condF (decF c323.out) ?_
            refine CK.exit ?_
            refine thenQ_e ?_
            refine thenQ_e ?_
            refine blockQ_h ?_
            refine thenQ_n ?_
            refine CK.seq ?_
            refine CK.reg (ks := []) (.fl 0 (.fl 1 (.fl 2 (.nil)))) rfl ?_
            refine OKS.r rfl rfl rfl rfl (fun _ => Runs.mv rfl f321) ?_
            refine OKS.r rfl rfl rfl rfl (fun _ => Runs.as rfl rfl) ?_
            refine OKS.r rfl rfl rfl rfl (fun _ => Runs.as rfl rfl) ?_
            refine OKS.e ?_
            refine thenQ_n ?_
            refine CK.ret ?_
            cases hm322
            exact ⟨rfl, _, (res2 rfl rfl), φ316, _, hS318, A314, c315, rfl, rfl⟩
        · have hm324 := hm100; rw [if_neg c102] at hm324; replace c102 := Hid.mk c102
          refine CK.condF (decF c102.out) ?_
          refine CK.skip ?_
          refine thenQ_n ?_
          refine CK.seq ?_
          refine CK.reg (ks := []) (.fl 0 (.nil)) rfl ?_
          refine OKS.r rfl rfl rfl rfl (fun _ => Runs.as rfl rfl) ?_
          refine OKS.e ?_
          refine thenQ_n ?_
          refine CK.seq ?_
          refine CK.seq ?_
          refine CK.reg (ks := []) (.fl 0 (.nil)) rfl ?_
          refine OKS.r rfl rfl rfl rfl (fun _ => Runs.as rfl rfl) ?_
          refine OKS.e ?_
          refine thenQ_n ?_
          refine CK.block ?_
          obtain ⟨r343, hX344⟩ := jn_some hm324
          obtain ⟨hle345, hf346⟩ := forR_le hX344
          replace hle345 := Hid.mk hle345
          refine CK.forN (fun k342 l338 σ_ w_ => ∃ (φ_ : PHeap) (A339 : Option Addr) (c340 : Nat), σ_ 9 = .int .i64 (↑k342 : Int) ∧ σ_ 1 = .slice pA1 p1.length pc1 ∧ σ_ 7 = .int .i64 225 ∧ σ_ 8 = .slice A339 l338.length c340 ∧ PHeap.Le φ95 φ_ ∧ St ⟨w, [], φ⟩ φ_ [.row A339 c340 3 1 (List.flatMap encI l338)] w_) hf346 ?_ ?_ ?_
          · have hS347 := hS97.nilrow 3 1
            exact ⟨φ95, none, 0, rfl, f99, rfl, rfl, (PHeap.Le.refl _), hS347⟩
          · rintro k342 l338 xx351 σ349 W350 hk354 ⟨φ356, A339, c340, fi355, f359, f360, f361, le357, hS358⟩ hx352 hb353
            have c362 : Hid ((↑k342 : Int) < (↑p1.length : Int)) := Hid.mk (lp_lt0 hk354)
            replace hk354 := Hid.mk hk354
            have hi363 : Hid (w64 ((↑k342 : Int) + 1) = (↑(k342 + 1) : Int)) := Hid.mk (by have h1 := hle345.out; have h2 := c362.out; rw [w64_in] <;> omega)
            refine CK.seq ?_
            refine CK.seq ?_
            refine CK.reg (ks := []) (.fl 0 (.fl 1 (.fl 2 (.fl 3 (.nil))))) rfl ?_
            refine OKS.r rfl rfl rfl rfl (fun _ => Runs.mv rfl fi355) ?_
            refine OKS.r rfl rfl rfl rfl (fun _ => Runs.mv rfl f359) ?_
            refine OKS.r rfl rfl rfl rfl (fun _ => Runs.len rfl rfl Try.runUnderlying60) ?_
            refine OKS.r rfl rfl rfl rfl (fun _ => Runs.lss rfl rfl rfl) ?_
            refine OKS.e ?_
            refine thenQ_n ?_
            refine CK.condT (decT c362.out) ?_
            refine CK.skip ?_
            refine thenQ_n ?_
            refine CK.seq ?_
            refine CK.block ?_
            refine CK.seq ?_
            refine CK.reg (ks := []) (.fl 0 (.nil)) rfl ?_
            refine OKS.r rfl rfl rfl rfl (fun _ => Runs.as rfl rfl) ?_
            refine OKS.e ?_
            refine thenQ_n ?_
            refine CK.seq ?_
            refine CK.reg (ks := []) (.fl 0 (.nil)) rfl ?_
            refine OKS.r rfl rfl rfl rfl (fun _ => Runs.as rfl rfl) ?_
            refine OKS.e ?_
            refine thenQ_n ?_
            refine CK.seq ?_
            refine CK.seq ?_
            refine CK.reg (ks := []) (.fl 0 (.nil)) rfl ?_
            refine OKS.r rfl rfl rfl rfl (fun _ => Runs.as rfl rfl) ?_
            refine OKS.e ?_
            refine thenQ_n ?_
            refine CK.block ?_
            obtain ⟨⟨y379, y380⟩, hf376, hm375⟩ := bnd hx352
            try dsimp only at hm375
            obtain ⟨hle377, hf378⟩ := forR'_le hf376
            replace hle377 := Hid.mk hle377
            refine CK.forN' (fun k374 (x372, x373) σ_ w_ => ∃ (φ_ : PHeap), σ_ 12 = .int .i64 (1 + ↑k374 : Int) ∧ σ_ 1 = .slice pA1 p1.length pc1 ∧ σ_ 7 = .int .i64 225 ∧ σ_ 8 = .slice A339 l338.length c340 ∧ σ_ 9 = .int .i64 (↑k342 : Int) ∧ σ_ 10 = .int .i64 x372 ∧ σ_ 11 = .int .i64 x373 ∧ PHeap.Le φ356 φ_ ∧ St ⟨w, [], φ⟩ φ_ [.row A339 c340 3 1 (List.flatMap encI l338)] w_) hf378 ?_ ?_ ?_
            · exact ⟨φ356, rfl, f359, f360, f361, fi355, rfl, rfl, (PHeap.Le.refl _), hS358⟩
            · rintro k374 ⟨x372, x373⟩ xx383 σ381 W382 hk386 ⟨φ388, fi387, f391, f392, f393, f394, f395, f396, le389, hS390⟩ hx384
              try dsimp only at hx384
              have c397 : Hid ((1 + ↑k374 : Int) ≤ 5) := Hid.mk (lp_le hk386)
              replace hk386 := Hid.mk hk386
              have hi398 : Hid (w64 ((1 + ↑k374 : Int) + 1) = (1 + ↑(k374 + 1) : Int)) := Hid.mk (by have h1 := hle377.out; have h2 := c397.out; rw [w64_in] <;> omega)
              refine CK.seq ?_
              refine CK.seq ?_
              refine CK.reg (ks := []) (.fl 0 (.fl 1 (.nil))) rfl ?_
              refine OKS.r rfl rfl rfl rfl (fun _ => Runs.mv rfl fi387) ?_
              refine OKS.r rfl rfl rfl rfl (fun _ => Runs.leq rfl rfl rfl) ?_
              refine OKS.e ?_
              refine thenQ_n ?_
              refine CK.condT (decT c397.out) ?_
              refine CK.skip ?_
              refine thenQ_n ?_
              refine CK.seq ?_
              refine CK.block ?_
              refine CK.seq ?_
              refine CK.anyOrd Try.mixed [3, 3, 3, 3, 1, 3, 3, 3, 3, 3, 3, 3, 3, 1, 3, 3] (.fl 0 (.fl 1 (.fl 2 (.fl 3 (.fl 4 (.fl 5 (.fl 6 (.fl 7 (.fl 8 (.fl 9 (.fl 10 (.fl 11 (.fl 12 (.fl 13 (.fl 14 (.fl 15 (.nil))))))))))))))))) (by kernel_rfl) ?_
              have hS399 := hS390.drew
              generalize hw_W400 : ({ W382 with drawn := W382.drawn + 1 } : World) = W400 at hS399 ⊢
              refine OKS.r rfl rfl rfl rfl (fun _ => Runs.mv rfl f391) ?_
              refine OKS.r rfl rfl rfl rfl (fun _ => Runs.mv rfl f394) ?_
              obtain ⟨x401, h402, hm403⟩ := bnd hx384
              have h404 := ha0.le le8
              have h405 := h404.le le96
              have h406 := h405.le le357
              have h407 := h406.le le389
              obtain ⟨b408, off409, hA410, hC411⟩ := h407.el (fun _ => rfl) (idx_get h402)
              refine OKS.r rfl rfl rfl rfl (fun _ => Runs.iaN rfl rfl hA410 rfl Try.runUnderlying60 Try.sizeOf61 (idx_lt h402)) ?_
              refine OKS.r rfl rfl rfl rfl (fun _ => Runs.fa rfl rfl Try.runUnderlying61 rfl Try.sizeOf3) ?_
              refine OKS.m rfl rfl rfl rfl (hS399.ldC (f := 0) hC411 (v := .int .i64 x401.X) rfl rfl Try.isAgg3 rfl) rfl ?_
              refine OKS.r rfl rfl rfl rfl (fun _ => Runs.mv rfl fi387) ?_
              refine OKS.r rfl rfl rfl rfl (fun _ => Runs.subw rfl rfl rfl) ?_
              refine OKS.r rfl rfl rfl rfl (fun _ => Runs.mulw rfl rfl rfl) ?_
              refine OKS.r rfl rfl rfl rfl (fun _ => Runs.subw rfl rfl rfl) ?_
              refine OKS.r rfl rfl rfl rfl (fun _ => Runs.mv rfl f391) ?_
              refine OKS.r rfl rfl rfl rfl (fun _ => Runs.mv rfl f394) ?_
              obtain ⟨b412, off413, hA414, hC415⟩ := h407.el (fun _ => rfl) (idx_get h402)
              refine OKS.r rfl rfl rfl rfl (fun _ => Runs.iaN rfl rfl hA414 rfl Try.runUnderlying60 Try.sizeOf61 (idx_lt h402)) ?_
              refine OKS.r rfl rfl rfl rfl (fun _ => Runs.fa rfl rfl Try.runUnderlying61 rfl Try.sizeOf3) ?_
              refine OKS.m rfl rfl rfl rfl (hS399.ldC (f := 1) hC415 (v := .int .i64 x401.Y) rfl rfl Try.isAgg3 rfl) rfl ?_
              refine OKS.r rfl rfl rfl rfl (fun _ => Runs.as rfl rfl) ?_
              refine OKS.r rfl rfl rfl rfl (fun _ => Runs.as rfl rfl) ?_
              refine OKS.e ?_
              refine thenQ_n ?_
              refine CK.seq ?_
              refine CK.reg (ks := []) (.fl 0 (.fl 1 (.fl 2 (.fl 3 (.fl 4 (.fl 5 (.fl 6 (.fl 7 (.fl 8 (.fl 9 (.fl 10 (.fl 11 (.nil))))))))))))) rfl ?_
              refine OKS.r rfl rfl rfl rfl (fun _ => Runs.mv rfl rfl) ?_
              refine OKS.r rfl rfl rfl rfl (fun _ => Runs.mv rfl rfl) ?_
              refine OKS.r rfl rfl rfl rfl (fun _ => Runs.mulw rfl rfl rfl) ?_
              refine OKS.r rfl rfl rfl rfl (fun _ => Runs.mv rfl rfl) ?_
              refine OKS.r rfl rfl rfl rfl (fun _ => Runs.mv rfl rfl) ?_
              refine OKS.r rfl rfl rfl rfl (fun _ => Runs.mulw rfl rfl rfl) ?_
              refine OKS.r rfl rfl rfl rfl (fun _ => Runs.addw rfl rfl rfl) ?_
              refine OKS.r rfl rfl rfl rfl (fun _ => Runs.mv rfl f392) ?_
              refine OKS.r rfl rfl rfl rfl (fun _ => Runs.mv rfl f392) ?_
              refine OKS.r rfl rfl rfl rfl (fun _ => Runs.to (Runs.mulw rfl rfl rfl) (congrArg (Value.int .i64) (show w64 (225 * 225) = 50625 by decide))) ?_
              refine OKS.r rfl rfl rfl rfl (fun _ => Runs.leq rfl rfl rfl) ?_
              refine OKS.r rfl rfl rfl rfl (fun _ => Runs.as rfl rfl) ?_
              refine OKS.e ?_
              refine thenQ_n ?_
              refine CK.seq ?_
              refine CK.seq ?_
              refine CK.reg (ks := []) (.fl 0 (.nil)) rfl ?_
              refine OKS.r rfl rfl rfl rfl (fun _ => Runs.as rfl rfl) ?_
              refine OKS.e ?_
              refine thenQ_n ?_
              refine CK.block ?_
              obtain ⟨⟨y431, y432⟩, hf428, hm427⟩ := bnd hm403
              try dsimp only at hm427
              obtain ⟨hle429, hf430⟩ := forR'_le hf428
              replace hle429 := Hid.mk hle429
              refine CK.forN' (fun k426 (x424, b425) σ_ w_ => ∃ (φ_ : PHeap), σ_ 16 = .int .i64 (↑k426 : Int) ∧ σ_ 1 = .slice pA1 p1.length pc1 ∧ σ_ 7 = .int .i64 225 ∧ σ_ 8 = .slice A339 l338.length c340 ∧ σ_ 9 = .int .i64 (↑k342 : Int) ∧ σ_ 10 = .int .i64 x372 ∧ σ_ 11 = .int .i64 x424 ∧ σ_ 12 = .int .i64 (1 + ↑k374 : Int) ∧ σ_ 15 = .bool b425 ∧ PHeap.Le φ388 φ_ ∧ St ⟨w, [], φ⟩ φ_ [.row A339 c340 3 1 (List.flatMap encI l338)] w_) hf430 ?_ ?_ ?_
              · exact ⟨φ388, rfl, f391, f392, f393, f394, f395, f396, fi387, rfl, (PHeap.Le.refl _), hS399⟩
              · rintro k426 ⟨x424, b425⟩ xx435 σ433 W434 hk438 ⟨φ440, fi439, f443, f444, f445, f446, f447, f448, f449, f450, le441, hS442⟩ hx436
                try dsimp only at hx436
                have c451 : Hid ((↑k426 : Int) < (↑k342 : Int)) := Hid.mk (lp_lt0 hk438)
                replace hk438 := Hid.mk hk438
                have hi452 : Hid (w64 ((↑k426 : Int) + 1) = (↑(k426 + 1) : Int)) := Hid.mk (by have h1 := hle429.out; have h2 := c451.out; rw [w64_in] <;> omega)
                refine CK.seq ?_
                refine CK.seq ?_
                refine CK.reg (ks := []) (.fl 0 (.fl 1 (.fl 2 (.nil)))) rfl ?_
                refine OKS.r rfl rfl rfl rfl (fun _ => Runs.mv rfl fi439) ?_
                refine OKS.r rfl rfl rfl rfl (fun _ => Runs.mv rfl f446) ?_
                refine OKS.r rfl rfl rfl rfl (fun _ => Runs.lss rfl rfl rfl) ?_
                refine OKS.e ?_
                refine thenQ_n ?_
                refine CK.condT (decT c451.out) ?_
                refine CK.skip ?_
                refine thenQ_n ?_
                refine CK.seq ?_
                refine CK.block ?_
                refine CK.seq ?_
                refine CK.reg (ks := []) (.fl 0 (.fl 1 (.fl 2 (.fl 3 (.fl 4 (.fl 5 (.nil))))))) rfl ?_
                refine OKS.r rfl rfl rfl rfl (fun _ => Runs.mv rfl f445) ?_
                refine OKS.r rfl rfl rfl rfl (fun _ => Runs.mv rfl fi439) ?_
                obtain ⟨_, h453, hm454⟩ := bnd hx436
                obtain ⟨b455, hA456⟩ := hS442.rowSome (j := 0) rfl (by rw [flatMap_len (f := encI) (sz := 1) (fun _ => rfl) l338]; have hz := chk_lt h453; omega)
                refine OKS.r rfl rfl rfl rfl (fun _ => Runs.iaN rfl rfl hA456 rfl Try.runUnderlying23 Try.sizeOf3 (chk_lt h453)) ?_
                have hg457 := gd_at (xs := l338) (chk_lt h453)
                refine OKS.m rfl rfl rfl rfl (hS442.ldR (j := 0) rfl hA456 rfl rfl Try.isAgg3 (flatMap_cell (sz := 1) (fun _ => rfl) _ _ 0 _ hg457 (by omega) rfl)) rfl ?_
                refine OKS.r rfl rfl rfl rfl (fun _ => Runs.mv rfl f449) ?_
                refine OKS.r rfl rfl rfl rfl (fun _ => Runs.eql rfl rfl rfl) ?_
                refine OKS.e ?_
                refine thenQ_n ?_
                by_cases c458 : (gd l338 k426) = (1 + ↑k374 : Int)
                · have hm459 := hm454; rw [if_pos c458] at hm459; replace c458 := Hid.mk c458
                  refine CK.condT (decT c458.out) ?_
                  refine CK.seq ?_
                  refine CK.reg (ks := []) (.fl 0 (.nil)) rfl ?_
                  refine OKS.r rfl rfl rfl rfl (fun _ => Runs.as rfl rfl) ?_
                  refine OKS.e ?_
                  refine thenQ_n ?_
                  refine CK.reg (ks := []) (.fl 0 (.fl 1 (.fl 2 (.nil)))) rfl ?_
                  refine OKS.r rfl rfl rfl rfl (fun _ => Runs.mv rfl f448) ?_
                  refine OKS.r rfl rfl rfl rfl (fun _ => Runs.subw rfl rfl rfl) ?_
                  refine OKS.r rfl rfl rfl rfl (fun _ => Runs.as rfl rfl) ?_
                  refine OKS.e ?_
                  refine blockQ_n ?_
                  refine thenQ_n ?_
                  refine CK.reg (ks := []) (.fl 0 (.fl 1 (.fl 2 (.nil)))) rfl ?_
                  refine OKS.r rfl rfl rfl rfl (fun _ => Runs.mv rfl fi439) ?_
                  refine OKS.r rfl rfl rfl rfl (fun _ => Runs.to (Runs.addw rfl rfl rfl) (congrArg (Value.int .i64) hi452.out)) ?_
                  refine OKS.r rfl rfl rfl rfl (fun _ => Runs.as rfl rfl) ?_
                  refine OKS.e ?_
                  cases hm459
                  exact thenQ_n ⟨rfl, ⟨φ440, rfl, f443, f444, f445, f446, f447, rfl, f449, rfl, le441, hS442⟩⟩
                · have hm462 := hm454; rw [if_neg c458] at hm462; replace c458 := Hid.mk c458
                  refine CK.condF (decF c458.out) ?_
                  refine CK.skip ?_
                  refine blockQ_n ?_
                  refine thenQ_n ?_
                  refine CK.reg (ks := []) (.fl 0 (.fl 1 (.fl 2 (.nil)))) rfl ?_
                  refine OKS.r rfl rfl rfl rfl (fun _ => Runs.mv rfl fi439) ?_
                  refine OKS.r rfl rfl rfl rfl (fun _ => Runs.to (Runs.addw rfl rfl rfl) (congrArg (Value.int .i64) hi452.out)) ?_
                  refine OKS.r rfl rfl rfl rfl (fun _ => Runs.as rfl rfl) ?_
                  refine OKS.e ?_
                  cases hm462
                  exact thenQ_n ⟨rfl, ⟨φ440, rfl, f443, f444, f445, f446, f447, f448, f449, f450, le441, hS442⟩⟩
              · rintro σ465 W466 ⟨φ471, fi468, f474, f475, f476, f477, f478, f479, f480, f481, le472, hS473⟩
                have c482 : Hid (¬ ((↑(((↑k342 : Int) : Int) - 0).toNat : Int) < (↑k342 : Int))) := Hid.mk (lp_end0)
                refine CK.seq ?_
                refine CK.seq ?_
                refine CK.reg (ks := []) (.fl 0 (.fl 1 (.fl 2 (.nil)))) rfl ?_
                refine OKS.r rfl rfl rfl rfl (fun _ => Runs.mv rfl fi468) ?_
                refine OKS.r rfl rfl rfl rfl (fun _ => Runs.mv rfl f477) ?_
                refine OKS.r rfl rfl rfl rfl (fun _ => Runs.lss rfl rfl rfl) ?_
                refine OKS.e ?_
                refine thenQ_n ?_
                refine CK.condF (decF c482.out) ?_
                refine CK.exit ?_
                refine thenQ_e ?_
                refine thenQ_e ?_
                refine blockQ_h ?_
                refine thenQ_n ?_
                refine CK.seq ?_
                refine CK.reg (ks := []) (.fl 0 (.nil)) rfl ?_
                refine OKS.r rfl rfl rfl rfl (fun _ => Runs.mv rfl f481) ?_
                refine OKS.e ?_
                refine thenQ_n ?_
                by_cases c483 : y432 = true
                · have hm484 := hm427; rw [if_pos c483] at hm484; replace c483 := Hid.mk c483
                  refine CK.condT (congrArg Value.bool c483.out) ?_
                  refine CK.reg (ks := []) (.fl 0 (.fl 1 (.nil))) rfl ?_
                  refine OKS.r rfl rfl rfl rfl (fun _ => Runs.mv rfl f480) ?_
                  refine OKS.r rfl rfl rfl rfl (fun _ => Runs.as rfl rfl) ?_
                  refine OKS.e ?_
                  refine blockQ_n ?_
                  refine thenQ_n ?_
                  refine CK.reg (ks := []) (.fl 0 (.fl 1 (.fl 2 (.nil)))) rfl ?_
                  refine OKS.r rfl rfl rfl rfl (fun _ => Runs.mv rfl f480) ?_
                  refine OKS.r rfl rfl rfl rfl (fun _ => Runs.to (Runs.addw rfl rfl rfl) (congrArg (Value.int .i64) hi398.out)) ?_
                  refine OKS.r rfl rfl rfl rfl (fun _ => Runs.as rfl rfl) ?_
                  refine OKS.e ?_
                  cases hm484
                  exact thenQ_n ⟨rfl, ⟨φ471, rfl, f474, f475, f476, f477, rfl, f479, (le389.trans le472), hS473⟩⟩
                · have hm487 := hm427; rw [if_neg c483] at hm487; replace c483 := Hid.mk c483
                  refine CK.condF (congrArg Value.bool (Bool.eq_false_iff.2 c483.out)) ?_
                  refine CK.skip ?_
                  refine blockQ_n ?_
                  refine thenQ_n ?_
                  refine CK.reg (ks := []) (.fl 0 (.fl 1 (.fl 2 (.nil)))) rfl ?_
                  refine OKS.r rfl rfl rfl rfl (fun _ => Runs.mv rfl f480) ?_
                  refine OKS.r rfl rfl rfl rfl (fun _ => Runs.to (Runs.addw rfl rfl rfl) (congrArg (Value.int .i64) hi398.out)) ?_
                  refine OKS.r rfl rfl rfl rfl (fun _ => Runs.as rfl rfl) ?_
                  refine OKS.e ?_
                  cases hm487
                  exact thenQ_n ⟨rfl, ⟨φ471, rfl, f474, f475, f476, f477, f478, f479, (le389.trans le472), hS473⟩⟩
            · rintro σ490 W491 ⟨φ496, fi493, f499, f500, f501, f502, f503, f504, le497, hS498⟩
              have c505 : Hid (¬ ((1 + ↑(((5 + 1) : Int) - 1).toNat : Int) ≤ 5)) := Hid.mk (lp_end_le)
              refine CK.seq ?_
              refine CK.seq ?_
              refine CK.reg (ks := []) (.fl 0 (.fl 1 (.nil))) rfl ?_
              refine OKS.r rfl rfl rfl rfl (fun _ => Runs.mv rfl fi493) ?_
              refine OKS.r rfl rfl rfl rfl (fun _ => Runs.leq rfl rfl rfl) ?_
              refine OKS.e ?_
              refine thenQ_n ?_
              refine CK.condF (decF c505.out) ?_
              refine CK.exit ?_
              refine thenQ_e ?_
              refine thenQ_e ?_
              refine blockQ_h ?_
              refine thenQ_n ?_
              refine CK.seq ?_
              refine CK.seq ?_
              refine CK.reg (ks := []) (.fl 0 (.fl 1 (.nil))) rfl ?_
              refine OKS.r rfl rfl rfl rfl (fun _ => Runs.mv rfl f504) ?_
              refine OKS.r rfl rfl rfl rfl (fun _ => Runs.eql rfl rfl rfl) ?_
              refine OKS.e ?_
              refine thenQ_n ?_
              by_cases c506 : y380 = 0
              · have hm507 := hm375; rw [if_pos c506] at hm507; replace c506 := Hid.mk c506
                refine CK.condT (decT c506.out) ?_
                refine CK.seq ?_
                refine CK.reg (ks := []) (.fl 0 (.fl 1 (.nil))) rfl ?_
                refine OKS.r rfl rfl rfl rfl (fun _ => Runs.as rfl rfl) ?_
                refine OKS.r rfl rfl rfl rfl (fun _ => Runs.as rfl rfl) ?_
                refine OKS.e ?_
                refine thenQ_n ?_
                refine CK.ret ?_
                refine thenQ_r ?_
                refine blockQ_r ?_
                refine thenQ_r ?_
                obtain ⟨v508, hm509, e510⟩ := esc_spec hm507
                obtain rfl := jn_inr hm324 hX344 (hb353 v508 e510)
                refine thenQ_r ?_
                refine blockQ_r ?_
                refine thenQ_r ?_
                have hS511 := hS498.nilrow 3 1
                cases hm509
                exact ⟨rfl, _, (res2 rfl rfl), φ496, _, (hS511.pick [0] _ (by decide) rfl), none, 0, rfl, rfl⟩
              · have hm513 := hm375; rw [if_neg c506] at hm513; replace c506 := Hid.mk c506
                refine CK.condF (decF c506.out) ?_
                refine CK.skip ?_
                refine thenQ_n ?_
                refine CK.reg (ks := []) (.fl 0 (.fl 1 (.fx 2 (.fx 3 (.fl 4 (.nil)) .stop) .stop))) rfl ?_
                refine OKS.r rfl rfl rfl rfl (fun _ => Runs.mv rfl f501) ?_
                refine OKS.r rfl rfl rfl rfl (fun _ => Runs.mv rfl f503) ?_
                refine OKS.buildSlice (pv := [(0, .int .i64 y379)]) (zs := [.int .i64 0]) (cs := [.int .i64 y379]) rfl rfl rfl rfl rfl (mapcons2 rfl mapnil2) Try.runUnderlying23 Try.sizeOf3 Try.zeroValue3 rfl rfl rfl rfl rfl hS498 ?_
                intro W514 b515 hS516
                have hS518 : St ⟨w, [], φ⟩ φ496 [.row (some ⟨b515, 0, none⟩) 1 3 1 (List.flatMap encI [y379]), .row A339 c340 3 1 (List.flatMap encI l338)] W514 := hS516
                obtain ⟨x519, h520, hm521⟩ := bnd hm513
                refine OKS.append (j := 1) (enc := encI) (xs := l338) (ys := [y379]) (zs := x519) rfl rfl rfl rfl rfl Try.underlying23 info3 rfl rfl rfl rfl rfl rfl hS518 rfl rfl rfl (hS518.srcR (j := 0) rfl (by decide) (flatMap_len (f := encI) (sz := 1) (fun _ => rfl) [y379])) (fun _ => rfl) (fun _ => rfl) h520 rfl ?_
                intro A522 c523 W524 hS525
                have hS526 : St ⟨w, [], φ⟩ φ496 [.row (some ⟨b515, 0, none⟩) 1 3 1 (List.flatMap encI [y379]), .row A522 c523 3 1 (List.flatMap encI x519)] W524 := hS525
                refine OKS.r rfl rfl rfl rfl (fun _ => Runs.as rfl rfl) ?_
                refine OKS.e ?_
                refine blockQ_n ?_
                refine thenQ_n ?_
                refine CK.reg (ks := []) (.fl 0 (.fl 1 (.fl 2 (.nil)))) rfl ?_
                refine OKS.r rfl rfl rfl rfl (fun _ => Runs.mv rfl f502) ?_
                refine OKS.r rfl rfl rfl rfl (fun _ => Runs.to (Runs.addw rfl rfl rfl) (congrArg (Value.int .i64) hi363.out)) ?_
                refine OKS.r rfl rfl rfl rfl (fun _ => Runs.as rfl rfl) ?_
                refine OKS.e ?_
                obtain rfl := Option.some.inj hm521
                exact thenQ_n ⟨rfl, _, rfl, ⟨φ496, A522, c523, rfl, f499, f500, rfl, (le357.trans le497), (hS526.pick [1] _ (by decide) rfl)⟩⟩
          · rintro y534 σ530 W531 ⟨φ537, A535, c536, fi533, f540, f541, f542, le538, hS539⟩ hb532
            have hm543 := jn_inl hm324 hX344 hb532
            have c544 : Hid (¬ ((↑(((↑p1.length : Int) : Int) - 0).toNat : Int) < (↑p1.length : Int))) := Hid.mk (lp_end0)
            refine CK.seq ?_
            refine CK.seq ?_
            refine CK.reg (ks := []) (.fl 0 (.fl 1 (.fl 2 (.fl 3 (.nil))))) rfl ?_
            refine OKS.r rfl rfl rfl rfl (fun _ => Runs.mv rfl fi533) ?_
            refine OKS.r rfl rfl rfl rfl (fun _ => Runs.mv rfl f540) ?_
            refine OKS.r rfl rfl rfl rfl (fun _ => Runs.len rfl rfl Try.runUnderlying60) ?_
            refine OKS.r rfl rfl rfl rfl (fun _ => Runs.lss rfl rfl rfl) ?_
            refine OKS.e ?_
            refine thenQ_n ?_
            refine CK.condF (decF c544.out) ?_
            refine CK.exit ?_
            refine thenQ_e ?_
            refine thenQ_e ?_
            refine blockQ_h ?_
            refine thenQ_n ?_
            refine CK.seq ?_
            refine CK.reg (ks := []) (.fl 0 (.fl 1 (.fl 2 (.nil)))) rfl ?_
            refine OKS.r rfl rfl rfl rfl (fun _ => Runs.mv rfl f542) ?_
            refine OKS.r rfl rfl rfl rfl (fun _ => Runs.as rfl rfl) ?_
            refine OKS.r rfl rfl rfl rfl (fun _ => Runs.as rfl rfl) ?_
            refine OKS.e ?_
            refine thenQ_n ?_
            refine CK.ret ?_
            cases hm543
            exact ⟨rfl, _, (res2 rfl rfl), φ537, _, hS539, A535, c536, rfl, rfl⟩
end Go.Proofs.Ytnllmignponhdaa
