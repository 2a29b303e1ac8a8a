/- Walks, printed by a program: each function does what its model says. -/
import Derived.Test.YtnllmignponhdaaEnc
import Derived.Test.YtnllmignponhdaaW0
import Derived.Test.YtnllmignponhdaaW1
import Derived.Test.YtnllmignponhdaaW2
namespace Go.Proofs.Ytnllmignponhdaa
open Go.KL
set_option maxHeartbeats 4000000 in
theorem w_klisterlaw03_wide (p0 : T_api_Span) (p1 : T_api_Span) (w : World) (φ : PHeap) (hS : St ⟨w, [], φ⟩ φ [] w)  {r : Bool} (hm : m_klisterlaw03_wide p0 p1 = some r) : Gv Try.prog 22 [.agg #[.int .i64 p0.Lo, .int .i64 p0.Hi], .agg #[.int .i64 p1.Lo, .int .i64 p1.Hi]] w (RetS w [] φ (fun φ_ L_ v => v = .bool r ∧ L_ = [])) := by
  unfold m_klisterlaw03_wide at hm
  refine Gv.of Try.func22 rfl Try.ntmps22 Try.results22 rfl ?_
  refine CK.seq ?_
  refine CK.reg (ks := []) (.fx 0 (.fx 1 (.fl 2 (.nil)) .stop) .stop) rfl ?_
  refine OKS.box (cs := [.int .i64 p0.Lo, .int .i64 p0.Hi]) rfl rfl rfl rfl rfl rfl (by rfl) hS ?_
  intro W1 b2 hS3
  refine OKS.box (cs := [.int .i64 p1.Lo, .int .i64 p1.Hi]) rfl rfl rfl rfl rfl rfl (by rfl) hS3 ?_
  intro W5 b6 hS7
  refine OKS.r rfl rfl rfl rfl (fun _ => Runs.as rfl rfl) ?_
  refine OKS.e ?_
  refine thenQ_n ?_
  refine CK.seq ?_
  refine CK.reg (ks := []) (.fl 0 (.fl 1 (.fl 2 (.fl 3 (.fl 4 (.fl 5 (.fl 6 (.fl 7 (.fl 8 (.fl 9 (.fl 10 (.fl 11 (.fl 12 (.nil)))))))))))))) rfl ?_
  refine OKS.r rfl rfl rfl rfl (fun _ => Runs.fa rfl rfl Try.runUnderlying31 rfl Try.sizeOf3) ?_
  refine OKS.m rfl rfl rfl rfl (hS7.ldB (j := 1) rfl rfl rfl Try.isAgg3 (v := .int .i64 p0.Lo) rfl) rfl ?_
  refine OKS.r rfl rfl rfl rfl (fun _ => Runs.fa rfl rfl Try.runUnderlying31 rfl Try.sizeOf3) ?_
  refine OKS.m rfl rfl rfl rfl (hS7.ldB (j := 0) rfl rfl rfl Try.isAgg3 (v := .int .i64 p1.Lo) rfl) rfl ?_
  refine OKS.r rfl rfl rfl rfl (fun _ => Runs.leq rfl rfl rfl) ?_
  refine OKS.r rfl rfl rfl rfl (fun _ => Runs.mv rfl rfl) ?_
  by_cases c9 : p0.Lo ≤ p1.Lo
  · have hm10 := hm; rw [if_pos c9] at hm10; replace c9 := Hid.mk c9
    refine OKS.r rfl rfl rfl (wantedY rfl rfl (decT c9.out)) (fun _ => Runs.fa rfl rfl Try.runUnderlying31 rfl Try.sizeOf3) ?_
    refine OKS.m rfl rfl rfl (wantedY rfl rfl (decT c9.out)) (hS7.ldB (j := 0) rfl rfl rfl Try.isAgg3 (v := .int .i64 p1.Hi) rfl) rfl ?_
    refine OKS.r rfl rfl rfl (wantedY rfl rfl (decT c9.out)) (fun _ => Runs.fa rfl rfl Try.runUnderlying31 rfl Try.sizeOf3) ?_
    refine OKS.m rfl rfl rfl (wantedY rfl rfl (decT c9.out)) (hS7.ldB (j := 1) rfl rfl rfl Try.isAgg3 (v := .int .i64 p0.Hi) rfl) rfl ?_
    refine OKS.r rfl rfl rfl (wantedY rfl rfl (decT c9.out)) (fun _ => Runs.leq rfl rfl rfl) ?_
    refine OKS.r rfl rfl rfl rfl (fun _ => Runs.pickT rfl (decT c9.out) rfl) ?_
    refine OKS.r rfl rfl rfl rfl (fun _ => Runs.as rfl rfl) ?_
    refine OKS.e ?_
    refine thenQ_n ?_
    refine CK.ret ?_
    cases hm10
    exact ⟨rfl, _, (res1 rfl), φ, _, (hS7.pick [] _ (by decide) rfl), rfl, rfl⟩
  · have hm11 := hm; rw [if_neg c9] at hm11; replace c9 := Hid.mk c9
    refine OKS.p rfl rfl rfl (wantedN rfl rfl (decF c9.out) rfl) ?_
    refine OKS.p rfl rfl rfl (wantedN rfl rfl (decF c9.out) rfl) ?_
    refine OKS.p rfl rfl rfl (wantedN rfl rfl (decF c9.out) rfl) ?_
    refine OKS.p rfl rfl rfl (wantedN rfl rfl (decF c9.out) rfl) ?_
    refine OKS.p rfl rfl rfl (wantedN rfl rfl (decF c9.out) rfl) ?_
    refine OKS.r rfl rfl rfl rfl (fun _ => Runs.pickF rfl (decF c9.out) rfl) ?_
    refine OKS.r rfl rfl rfl rfl (fun _ => Runs.as rfl rfl) ?_
    refine OKS.e ?_
    refine thenQ_n ?_
    refine CK.ret ?_
    cases hm11
    exact ⟨rfl, _, (res1 rfl), φ, _, (hS7.pick [] _ (by decide) rfl), rfl, rfl⟩

set_option maxHeartbeats 4000000 in
theorem w_target_all_int_1 (p0 : Int) (p1 : (Int → Option Bool)) (pb1 : Nat) (pv1 : Value) (w : World) (φ : PHeap) (hS : St ⟨w, [], φ⟩ φ [] w) (ha0 : Cl φ pb1 0 [pv1]) (ha1 : FnOK Try.prog φ pv1 ar108 rr108 p1) {r : Bool} (hm : m_target_all_int_1 p0 p1 = some r) : Gv Try.prog 144 [.int .i64 p0, .pointer (some ⟨pb1, 0, none⟩)] w (RetS w [] φ (fun φ_ L_ v => v = .bool r ∧ L_ = [])) := by
  unfold m_target_all_int_1 at hm
  refine Gv.of Try.func144 rfl Try.ntmps144 Try.results144 rfl ?_
  refine CK.seq ?_
  refine CK.reg (ks := []) (.fl 0 (.nil)) rfl ?_
  refine OKS.r rfl rfl rfl rfl (fun _ => Runs.as rfl rfl) ?_
  refine OKS.e ?_
  refine thenQ_n ?_
  refine CK.seq ?_
  refine CK.reg (ks := []) (.fl 0 (.fl 1 (.fx 2 (.fl 3 (.fl 4 (.nil))) .stop))) rfl ?_
  refine OKS.m rfl rfl rfl rfl (hS.ldC (f := 0) ha0 (v := pv1) rfl rfl Try.isAgg108 rfl) rfl ?_
  refine OKS.r rfl rfl rfl rfl (fun _ => Runs.mv rfl rfl) ?_
  obtain ⟨x1, h2, hm3⟩ := bnd hm
  refine OKS.callV (a := p0) rfl rfl rfl rfl rfl rfl (mapcons rfl mapnil) hS ha1 rfl h2 ?_
  rintro φ4 L5 v6 W7 le8 hS9 ⟨rfl, rfl⟩
  have hS10 : St ⟨w, [], φ⟩ φ4 [] W7 := hS9
  refine OKS.r rfl rfl rfl rfl (fun _ => Runs.notT rfl rfl) ?_
  refine OKS.r rfl rfl rfl rfl (fun _ => Runs.as rfl rfl) ?_
  refine OKS.e ?_
  refine thenQ_n ?_
  refine CK.ret ?_
  cases hm3
  exact ⟨rfl, _, (res1 rfl), φ4, _, hS10, rfl, rfl⟩

set_option maxHeartbeats 4000000 in
theorem w_slices_IndexFunc_int_int (p0 : List Int) (pA0 : Option Addr) (pc0 : Nat) (p1 : (Int → Option Bool)) (pv1 : Value) (w : World) (φ : PHeap) (hS : St ⟨w, [], φ⟩ φ [] w) (ha0 : Sl φ 1 pA0 pc0 p0.length (List.flatMap encI p0)) (ha1 : FnOK Try.prog φ pv1 ar108 rr108 p1) {r : Int} (hm : m_slices_IndexFunc_int_int p0 p1 = some r) : Gv Try.prog 138 [.slice pA0 p0.length pc0, pv1] w (RetS w [] φ (fun φ_ L_ v => v = .int .i64 r ∧ L_ = [])) := by
  unfold m_slices_IndexFunc_int_int at hm
  refine Gv.of Try.func138 rfl Try.ntmps138 Try.results138 rfl ?_
  refine CK.seq ?_
  refine CK.reg (ks := []) (.fl 0 (.nil)) rfl ?_
  refine OKS.r rfl rfl rfl rfl (fun _ => Runs.as rfl rfl) ?_
  refine OKS.e ?_
  refine thenQ_n ?_
  refine CK.seq ?_
  refine CK.seq ?_
  refine CK.reg (ks := []) (.fl 0 (.fl 1 (.fl 2 (.nil)))) rfl ?_
  refine OKS.r rfl rfl rfl rfl (fun _ => Runs.mv rfl rfl) ?_
  refine OKS.r rfl rfl rfl rfl (fun _ => Runs.len rfl rfl Try.runUnderlying23) ?_
  refine OKS.r rfl rfl rfl rfl (fun _ => Runs.mv rfl rfl) ?_
  refine OKS.e ?_
  refine thenQ_n ?_
  refine CK.block ?_
  obtain ⟨r3, hX4⟩ := jn_some hm
  obtain ⟨hle5, hf6⟩ := forR_le hX4
  replace hle5 := Hid.mk hle5
  refine CK.forN (fun k2 _ σ_ w_ => ∃ (φ_ : PHeap), σ_ 8 = .int .i64 (↑k2 : Int) ∧ σ_ 0 = .slice pA0 p0.length pc0 ∧ σ_ 1 = pv1 ∧ σ_ 7 = .int .i64 (↑p0.length : Int) ∧ PHeap.Le φ φ_ ∧ St ⟨w, [], φ⟩ φ_ [] w_) hf6 ?_ ?_ ?_
  · exact ⟨φ, rfl, rfl, rfl, rfl, (PHeap.Le.refl _), hS⟩
  · rintro k2 ⟨⟩ xx9 σ7 W8 hk12 ⟨φ14, fi13, f17, f18, f19, le15, hS16⟩ hx10 hb11
    try dsimp only at hx10
    have c20 : Hid ((↑k2 : Int) < (↑p0.length : Int)) := Hid.mk (lp_lt0 hk12)
    replace hk12 := Hid.mk hk12
    have hi21 : Hid (w64 ((↑k2 : Int) + 1) = (↑(k2 + 1) : Int)) := Hid.mk (by have h1 := hle5.out; have h2 := c20.out; rw [w64_in] <;> omega)
    refine CK.seq ?_
    refine CK.reg (ks := []) (.fl 0 (.nil)) rfl ?_
    refine OKS.r rfl rfl rfl rfl (fun _ => Runs.lss rfl fi13 f19) ?_
    refine OKS.e ?_
    refine thenQ_n ?_
    refine CK.seq ?_
    refine CK.condT (decT c20.out) ?_
    refine CK.skip ?_
    refine thenQ_n ?_
    refine CK.seq ?_
    refine CK.block ?_
    refine CK.seq ?_
    refine CK.reg (ks := []) (.fl 0 (.fl 1 (.nil))) rfl ?_
    refine OKS.r rfl rfl rfl rfl (fun _ => Runs.mv rfl fi13) ?_
    refine OKS.r rfl rfl rfl rfl (fun _ => Runs.as rfl rfl) ?_
    refine OKS.e ?_
    refine thenQ_n ?_
    refine CK.seq ?_
    refine CK.reg (ks := []) (.fl 0 (.fl 1 (.fl 2 (.fl 3 (.fl 4 (.fx 5 (.nil) .stop)))))) rfl ?_
    refine OKS.r rfl rfl rfl rfl (fun _ => Runs.mv rfl f18) ?_
    refine OKS.r rfl rfl rfl rfl (fun _ => Runs.mv rfl f17) ?_
    refine OKS.r rfl rfl rfl rfl (fun _ => Runs.mv rfl rfl) ?_
    obtain ⟨x22, h23, hm24⟩ := bnd hx10
    have h25 := ha0.le le15
    obtain ⟨b26, off27, hA28, hC29⟩ := h25.el (fun _ => rfl) (idx_get h23)
    refine OKS.r rfl rfl rfl rfl (fun _ => Runs.iaN rfl rfl hA28 rfl Try.runUnderlying23 Try.sizeOf3 (idx_lt h23)) ?_
    refine OKS.m rfl rfl rfl rfl (hS16.ldC (f := 0) hC29 (v := .int .i64 x22) rfl rfl Try.isAgg3 rfl) rfl ?_
    obtain ⟨x30, h31, hm32⟩ := bnd hm24
    have h39 := ha1.le le15
    refine OKS.callV (a := x22) rfl rfl rfl rfl rfl rfl (mapcons rfl mapnil) hS16 h39 rfl h31 ?_
    rintro φ33 L34 v35 W36 le37 hS38 ⟨rfl, rfl⟩
    have hS40 : St ⟨w, [], φ⟩ φ33 [] W36 := hS38
    refine OKS.e ?_
    refine thenQ_n ?_
    by_cases c41 : x30 = true
    · have hm42 := hm32; rw [if_pos c41] at hm42; replace c41 := Hid.mk c41
      refine CK.condT (congrArg Value.bool c41.out) ?_
      refine CK.seq ?_
      refine CK.reg (ks := []) (.fl 0 (.fl 1 (.nil))) rfl ?_
      refine OKS.r rfl rfl rfl rfl (fun _ => Runs.mv rfl rfl) ?_
      refine OKS.r rfl rfl rfl rfl (fun _ => Runs.as rfl rfl) ?_
      refine OKS.e ?_
      refine thenQ_n ?_
      refine CK.ret ?_
      refine blockQ_r ?_
      refine thenQ_r ?_
      obtain ⟨v43, hm44, e45⟩ := esc_spec hm42
      obtain rfl := jn_inr hm hX4 (hb11 v43 e45)
      refine thenQ_r ?_
      refine blockQ_r ?_
      refine thenQ_r ?_
      cases hm44
      exact ⟨rfl, _, (res1 rfl), φ33, _, hS40, rfl, rfl⟩
    · have hm46 := hm32; rw [if_neg c41] at hm46; replace c41 := Hid.mk c41
      refine CK.condF (congrArg Value.bool (Bool.eq_false_iff.2 c41.out)) ?_
      refine CK.skip ?_
      refine blockQ_n ?_
      refine thenQ_n ?_
      refine CK.reg (ks := []) (.fl 0 (.fl 1 (.nil))) rfl ?_
      refine OKS.r rfl rfl rfl rfl (fun _ => Runs.to (Runs.addw rfl fi13 rfl) (congrArg (Value.int .i64) hi21.out)) ?_
      refine OKS.r rfl rfl rfl rfl (fun _ => Runs.mv rfl rfl) ?_
      refine OKS.e ?_
      obtain rfl := Option.some.inj hm46
      exact thenQ_n ⟨rfl, _, rfl, ⟨φ33, rfl, f17, f18, f19, (le15.trans le37), hS40⟩⟩
  · rintro ⟨⟩ σ47 W48 ⟨φ51, fi50, f54, f55, f56, le52, hS53⟩ hb49
    have hm57 := jn_inl hm hX4 hb49
    try dsimp only at hm57
    have c58 : Hid (¬ ((↑(((↑p0.length : Int) : Int) - 0).toNat : Int) < (↑p0.length : Int))) := Hid.mk (lp_end0)
    refine CK.seq ?_
    refine CK.reg (ks := []) (.fl 0 (.nil)) rfl ?_
    refine OKS.r rfl rfl rfl rfl (fun _ => Runs.lss rfl fi50 f56) ?_
    refine OKS.e ?_
    refine thenQ_n ?_
    refine CK.seq ?_
    refine CK.condF (decF c58.out) ?_
    refine CK.exit ?_
    refine thenQ_e ?_
    refine thenQ_e ?_
    refine blockQ_h ?_
    refine thenQ_n ?_
    refine CK.seq ?_
    refine CK.reg (ks := []) (.fl 0 (.nil)) rfl ?_
    refine OKS.r rfl rfl rfl rfl (fun _ => Runs.as rfl rfl) ?_
    refine OKS.e ?_
    refine thenQ_n ?_
    refine CK.ret ?_
    cases hm57
    exact ⟨rfl, _, (res1 rfl), φ51, _, hS53, rfl, rfl⟩

set_option maxHeartbeats 4000000 in
theorem w_slices_ContainsFunc_int_int (p0 : List Int) (pA0 : Option Addr) (pc0 : Nat) (p1 : (Int → Option Bool)) (pv1 : Value) (w : World) (φ : PHeap) (hS : St ⟨w, [], φ⟩ φ [] w) (ha0 : Sl φ 1 pA0 pc0 p0.length (List.flatMap encI p0)) (ha1 : FnOK Try.prog φ pv1 ar108 rr108 p1) {r : Bool} (hm : m_slices_ContainsFunc_int_int p0 p1 = some r) : Gv Try.prog 139 [.slice pA0 p0.length pc0, pv1] w (RetS w [] φ (fun φ_ L_ v => v = .bool r ∧ L_ = [])) := by
  unfold m_slices_ContainsFunc_int_int at hm
  refine Gv.of Try.func139 rfl Try.ntmps139 Try.results139 rfl ?_
  refine CK.seq ?_
  refine CK.reg (ks := []) (.fl 0 (.nil)) rfl ?_
  refine OKS.r rfl rfl rfl rfl (fun _ => Runs.as rfl rfl) ?_
  refine OKS.e ?_
  refine thenQ_n ?_
  refine CK.seq ?_
  refine CK.reg (ks := []) (.fl 0 (.fl 1 (.fx 2 (.fl 3 (.fl 4 (.nil))) .stop))) rfl ?_
  refine OKS.r rfl rfl rfl rfl (fun _ => Runs.mv rfl rfl) ?_
  refine OKS.r rfl rfl rfl rfl (fun _ => Runs.mv rfl rfl) ?_
  obtain ⟨x1, h2, hm3⟩ := bnd hm
  refine OKS.callH 0 rfl rfl rfl rfl (Enters.mk rfl rfl Try.call138 (mapcons rfl (mapcons rfl mapnil)) rfl) hS (fun hs => w_slices_IndexFunc_int_int p0 pA0 pc0 p1 pv1 w φ hs ha0 ha1 h2) (.inr rfl) ?_
  rintro φ4 L5 v6 W7 le8 hS9 ⟨rfl, rfl⟩
  have hS10 : St ⟨w, [], φ⟩ φ4 [] W7 := hS9
  refine OKS.r rfl rfl rfl rfl (fun _ => Runs.geq rfl rfl rfl) ?_
  refine OKS.r rfl rfl rfl rfl (fun _ => Runs.as rfl rfl) ?_
  refine OKS.e ?_
  refine thenQ_n ?_
  refine CK.ret ?_
  cases hm3
  exact ⟨rfl, _, (res1 rfl), φ4, _, hS10, rfl, rfl⟩

set_option maxHeartbeats 4000000 in
theorem w_target_all_int (p0 : List Int) (pA0 : Option Addr) (pc0 : Nat) (p1 : (Int → Option Bool)) (pv1 : Value) (w : World) (φ : PHeap) (hS : St ⟨w, [], φ⟩ φ [] w) (ha0 : Sl φ 1 pA0 pc0 p0.length (List.flatMap encI p0)) (ha1 : FnOK Try.prog φ pv1 ar108 rr108 p1) {r : Bool} (hm : m_target_all_int p0 p1 = some r) : Gv Try.prog 121 [.slice pA0 p0.length pc0, pv1] w (RetS w [] φ (fun φ_ L_ v => v = .bool r ∧ L_ = [])) := by
  unfold m_target_all_int at hm
  refine Gv.of Try.func121 rfl Try.ntmps121 Try.results121 rfl ?_
  refine CK.seq ?_
  refine CK.reg (ks := []) (.fx 0 (.fl 1 (.nil)) .stop) rfl ?_
  refine OKS.box (cs := [pv1]) rfl rfl rfl rfl rfl rfl (FnOK.cells ha1) hS ?_
  intro W1 b2 hS3
  obtain ⟨φ5, le6, hC7, hS8⟩ := hS3.freeze (k := 0) rfl
  replace hC7 := Cl.of hC7
  have hS9 : St ⟨w, [], φ⟩ φ5 [] W1 := hS8
  replace hC7 : Cl φ5 b2 0 [pv1] := hC7
  refine OKS.r rfl rfl rfl rfl (fun _ => Runs.as rfl rfl) ?_
  refine OKS.e ?_
  refine thenQ_n ?_
  refine CK.seq ?_
  refine CK.reg (ks := []) (.fl 0 (.fl 1 (.fx 2 (.fl 3 (.fl 4 (.nil))) .stop))) rfl ?_
  refine OKS.r rfl rfl rfl rfl (fun _ => Runs.mv rfl rfl) ?_
  refine OKS.r rfl rfl rfl rfl (fun _ => Runs.mkf rfl mapnil (mapcons rfl mapnil)) ?_
  have h10 := ha0.le le6
  have h11 := ha1.le le6
  have hF12 : FnOK Try.prog φ5 (.func (.func 144) #[] #[.pointer (some ⟨b2, 0, none⟩)]) ar108 rr108 (fun x => m_target_all_int_1 x p1) := ⟨144, [], [.pointer (some ⟨b2, 0, none⟩)], rfl, Try.call144, fun φ1 w1 x y vs le hs ha hm => by obtain rfl := ha; exact w_target_all_int_1 x p1 b2 pv1 w1 φ1 hs (hC7.le le) (h11.le le) hm⟩
  obtain ⟨x13, h14, hm15⟩ := bnd hm
  refine OKS.callH 0 rfl rfl rfl rfl (Enters.mk rfl rfl Try.call139 (mapcons rfl (mapcons rfl mapnil)) rfl) hS9 (fun hs => w_slices_ContainsFunc_int_int p0 pA0 pc0 (fun x => m_target_all_int_1 x p1) (.func (.func 144) #[] #[.pointer (some ⟨b2, 0, none⟩)]) W1 φ5 hs h10 hF12 h14) (.inr rfl) ?_
  rintro φ16 L17 v18 W19 le20 hS21 ⟨rfl, rfl⟩
  have hS22 : St ⟨w, [], φ⟩ φ16 [] W19 := hS21
  refine OKS.r rfl rfl rfl rfl (fun _ => Runs.notT rfl rfl) ?_
  refine OKS.r rfl rfl rfl rfl (fun _ => Runs.as rfl rfl) ?_
  refine OKS.e ?_
  refine thenQ_n ?_
  refine CK.ret ?_
  cases hm15
  exact ⟨rfl, _, (res1 rfl), φ16, _, hS22, rfl, rfl⟩

set_option maxHeartbeats 4000000 in
theorem w_target_due_1 (p0 : Int) (w : World) (φ : PHeap) (hS : St ⟨w, [], φ⟩ φ [] w)  {r : Bool} (hm : m_target_due_1 p0 = some r) : Gv Try.prog 125 [.int .i64 p0] w (RetS w [] φ (fun φ_ L_ v => v = .bool r ∧ L_ = [])) := by
  unfold m_target_due_1 at hm
  refine Gv.of Try.func125 rfl Try.ntmps125 Try.results125 rfl ?_
  refine CK.seq ?_
  refine CK.reg (ks := []) (.fl 0 (.nil)) rfl ?_
  refine OKS.r rfl rfl rfl rfl (fun _ => Runs.as rfl rfl) ?_
  refine OKS.e ?_
  refine thenQ_n ?_
  refine CK.seq ?_
  refine CK.reg (ks := []) (.fl 0 (.fx 1 (.fl 2 (.nil)) .stop)) rfl ?_
  refine OKS.r rfl rfl rfl rfl (fun _ => Runs.mv rfl rfl) ?_
  obtain ⟨x1, h2, hm3⟩ := bnd hm
  refine OKS.callH 0 rfl rfl rfl rfl (Enters.mk rfl rfl Try.call82 (mapcons rfl (mapcons rfl (mapcons rfl mapnil))) rfl) hS (fun hs => w_target_within p0 0 5 w φ hs h2) (.inr rfl) ?_
  rintro φ4 L5 v6 W7 le8 hS9 ⟨rfl, rfl⟩
  have hS10 : St ⟨w, [], φ⟩ φ4 [] W7 := hS9
  refine OKS.r rfl rfl rfl rfl (fun _ => Runs.as rfl rfl) ?_
  refine OKS.e ?_
  refine thenQ_n ?_
  refine CK.ret ?_
  cases hm3
  exact ⟨rfl, _, (res1 rfl), φ4, _, hS10, rfl, rfl⟩

set_option maxHeartbeats 4000000 in
theorem w_target_due (p0 : List Int) (pA0 : Option Addr) (pc0 : Nat) (p1 : List T_target_Sheet) (pA1 : Option Addr) (pc1 : Nat) (w : World) (φ : PHeap) (hS : St ⟨w, [], φ⟩ φ [] w) (ha0 : Sl φ 1 pA0 pc0 p0.length (List.flatMap encI p0)) (ha1 : Sl φ 4 pA1 pc1 p1.length (List.flatMap encT_target_Sheet p1)) {r : Int} (hm : m_target_due p0 p1 = some r) : Gv Try.prog 75 [.slice pA0 p0.length pc0, .slice pA1 p1.length pc1] w (RetS w [] φ (fun φ_ L_ v => v = .int .i64 r ∧ L_ = [])) := by
  unfold m_target_due at hm
  refine Gv.of Try.func75 rfl Try.ntmps75 Try.results75 rfl ?_
  refine CK.seq ?_
  refine CK.reg (ks := []) (.fl 0 (.nil)) rfl ?_
  refine OKS.r rfl rfl rfl rfl (fun _ => Runs.as rfl rfl) ?_
  refine OKS.e ?_
  refine thenQ_n ?_
  refine CK.seq ?_
  refine CK.block ?_
  refine CK.seq ?_
  refine CK.reg (ks := []) (.fl 0 (.fl 1 (.fx 2 (.fl 3 (.fl 4 (.nil))) .stop))) rfl ?_
  refine OKS.r rfl rfl rfl rfl (fun _ => Runs.mv rfl rfl) ?_
  refine OKS.r rfl rfl rfl rfl (fun _ => Runs.len rfl rfl Try.runUnderlying23) ?_
  obtain ⟨x1, h2, hm3⟩ := bnd hm
  refine OKS.callH 0 rfl rfl rfl rfl (Enters.mk rfl rfl Try.call82 (mapcons rfl (mapcons rfl (mapcons rfl mapnil))) rfl) hS (fun hs => w_target_within (↑p0.length : Int) 1 8 w φ hs h2) (.inr rfl) ?_
  rintro φ4 L5 v6 W7 le8 hS9 ⟨rfl, rfl⟩
  have hS10 : St ⟨w, [], φ⟩ φ4 [] W7 := hS9
  refine OKS.r rfl rfl rfl rfl (fun _ => Runs.notT rfl rfl) ?_
  refine OKS.r rfl rfl rfl rfl (fun _ => Runs.as rfl rfl) ?_
  refine OKS.e ?_
  refine thenQ_n ?_
  by_cases c11 : x1 = true
  · have hm12 := hm3; rw [if_pos c11] at hm12; replace c11 := Hid.mk c11
    refine CK.condF (congrArg (fun b => Value.bool (!b)) c11.out) ?_
    refine CK.seq ?_
    refine CK.reg (ks := []) (.fl 0 (.fx 1 (.fl 2 (.fl 3 (.nil))) .stop)) rfl ?_
    refine OKS.r rfl rfl rfl rfl (fun _ => Runs.mv rfl rfl) ?_
    have h13 := ha0.le le8
    have hF14 : FnOK Try.prog φ4 (.func (.func 125) #[] #[]) ar108 rr108 m_target_due_1 := ⟨125, [], [], rfl, Try.call125, fun φ1 w1 x y vs le hs ha hm => by obtain rfl := ha; exact w_target_due_1 x w1 φ1 hs  hm⟩
    obtain ⟨x15, h16, hm17⟩ := bnd hm12
    refine OKS.callH 0 rfl rfl rfl rfl (Enters.mk rfl rfl Try.call121 (mapcons rfl (mapcons rfl mapnil)) rfl) hS10 (fun hs => w_target_all_int p0 pA0 pc0 m_target_due_1 (.func (.func 125) #[] #[]) W7 φ4 hs h13 hF14 h16) (.inr rfl) ?_
    rintro φ18 L19 v20 W21 le22 hS23 ⟨rfl, rfl⟩
    have hS24 : St ⟨w, [], φ⟩ φ18 [] W21 := hS23
    refine OKS.r rfl rfl rfl rfl (fun _ => Runs.notT rfl rfl) ?_
    refine OKS.r rfl rfl rfl rfl (fun _ => Runs.as rfl rfl) ?_
    refine OKS.e ?_
    refine thenQ_n ?_
    by_cases c25 : x15 = true
    · have hm26 := hm17; rw [if_pos c25] at hm26; replace c25 := Hid.mk c25
      refine CK.condF (congrArg (fun b => Value.bool (!b)) c25.out) ?_
      refine CK.skip ?_
      refine blockQ_n ?_
      refine thenQ_n ?_
      refine CK.seq ?_
      refine CK.reg (ks := []) (.fl 0 (.fl 1 (.fl 2 (.fx 3 (.fl 4 (.nil)) .stop)))) rfl ?_
      refine OKS.r rfl rfl rfl rfl (fun _ => Runs.mv rfl rfl) ?_
      refine OKS.r rfl rfl rfl rfl (fun _ => Runs.len rfl rfl Try.runUnderlying23) ?_
      refine OKS.r rfl rfl rfl rfl (fun _ => Runs.mv rfl rfl) ?_
      have h27 := ha1.le le8
      have h28 := h27.le le22
      obtain ⟨x29, h30, hm31⟩ := bnd hm26
      refine OKS.callH 0 rfl rfl rfl rfl (Enters.mk rfl rfl Try.call27 (mapcons rfl (mapcons rfl mapnil)) rfl) hS24 (fun hs => w_target_CheckSheets (↑p0.length : Int) p1 pA1 pc1 W21 φ18 hs h28 h30) (.inr rfl) ?_
      rintro φ32 L33 v34 W35 le36 hS37 ⟨rfl, rfl⟩
      have hS38 : St ⟨w, [], φ⟩ φ32 [] W35 := hS37
      refine OKS.r rfl rfl rfl rfl (fun _ => Runs.as rfl rfl) ?_
      refine OKS.e ?_
      refine thenQ_n ?_
      refine CK.ret ?_
      cases hm31
      exact ⟨rfl, _, (res1 rfl), φ32, _, hS38, rfl, rfl⟩
    · have hm39 := hm17; rw [if_neg c25] at hm39; replace c25 := Hid.mk c25
      refine CK.condT (congrArg (fun b => Value.bool (!b)) (Bool.eq_false_iff.2 c25.out)) ?_
      refine CK.seq ?_
      refine CK.reg (ks := []) (.fl 0 (.nil)) rfl ?_
      refine OKS.r rfl rfl rfl rfl (fun _ => Runs.as rfl rfl) ?_
      refine OKS.e ?_
      refine thenQ_n ?_
      refine CK.ret ?_
      refine blockQ_r ?_
      refine thenQ_r ?_
      cases hm39
      exact ⟨rfl, _, (res1 rfl), φ18, _, hS24, rfl, rfl⟩
  · have hm40 := hm3; rw [if_neg c11] at hm40; replace c11 := Hid.mk c11
    refine CK.condT (congrArg (fun b => Value.bool (!b)) (Bool.eq_false_iff.2 c11.out)) ?_
    refine CK.seq ?_
    refine CK.reg (ks := []) (.fl 0 (.nil)) rfl ?_
    refine OKS.r rfl rfl rfl rfl (fun _ => Runs.as rfl rfl) ?_
    refine OKS.e ?_
    refine thenQ_n ?_
    refine CK.ret ?_
    refine blockQ_r ?_
    refine thenQ_r ?_
    cases hm40
    exact ⟨rfl, _, (res1 rfl), φ4, _, hS10, rfl, rfl⟩

set_option maxHeartbeats 4000000 in
theorem w_target_Few (p0 : List Int) (pA0 : Option Addr) (pc0 : Nat) (p1 : List T_target_Sheet) (pA1 : Option Addr) (pc1 : Nat) (w : World) (φ : PHeap) (hS : St ⟨w, [], φ⟩ φ [] w) (ha0 : Sl φ 1 pA0 pc0 p0.length (List.flatMap encI p0)) (ha1 : Sl φ 4 pA1 pc1 p1.length (List.flatMap encT_target_Sheet p1)) {r : Bool × Int} (hm : m_target_Few p0 p1 = some r) : Gv Try.prog 23 [.slice pA0 p0.length pc0, .slice pA1 p1.length pc1] w (RetS w [] φ (fun φ_ L_ v => v = .tuple #[.bool r.1, .int .i64 r.2] ∧ L_ = [])) := by
  unfold m_target_Few at hm
  refine Gv.of Try.func23 rfl Try.ntmps23 Try.results23 rfl ?_
  refine CK.seq ?_
  refine CK.reg (ks := []) (.fl 0 (.fl 1 (.nil))) rfl ?_
  refine OKS.r rfl rfl rfl rfl (fun _ => Runs.as rfl rfl) ?_
  refine OKS.r rfl rfl rfl rfl (fun _ => Runs.as rfl rfl) ?_
  refine OKS.e ?_
  refine thenQ_n ?_
  refine CK.seq ?_
  refine CK.seq ?_
  refine CK.reg (ks := []) (.fl 0 (.fl 1 (.fx 2 (.fl 3 (.nil)) .stop))) rfl ?_
  refine OKS.r rfl rfl rfl rfl (fun _ => Runs.mv rfl rfl) ?_
  refine OKS.r rfl rfl rfl rfl (fun _ => Runs.mv rfl rfl) ?_
  obtain ⟨x1, h2, hm3⟩ := bnd hm
  refine OKS.callH 0 rfl rfl rfl rfl (Enters.mk rfl rfl Try.call75 (mapcons rfl (mapcons rfl mapnil)) rfl) hS (fun hs => w_target_due p0 pA0 pc0 p1 pA1 pc1 w φ hs ha0 ha1 h2) (.inr rfl) ?_
  rintro φ4 L5 v6 W7 le8 hS9 ⟨rfl, rfl⟩
  have hS10 : St ⟨w, [], φ⟩ φ4 [] W7 := hS9
  refine OKS.r rfl rfl rfl rfl (fun _ => Runs.as rfl rfl) ?_
  refine OKS.e ?_
  refine thenQ_n ?_
  refine CK.seq ?_
  refine CK.reg (ks := []) (.fl 0 (.fl 1 (.nil))) rfl ?_
  refine OKS.r rfl rfl rfl rfl (fun _ => Runs.mv rfl rfl) ?_
  refine OKS.r rfl rfl rfl rfl (fun _ => Runs.neq rfl rfl rfl) ?_
  refine OKS.e ?_
  refine thenQ_n ?_
  by_cases c11 : x1 = 0
  · have hm12 := hm3; rw [if_pos c11] at hm12; replace c11 := Hid.mk c11
    refine CK.condF (decF (fun h => h c11.out)) ?_
    refine CK.skip ?_
    refine thenQ_n ?_
    refine CK.seq ?_
    refine CK.reg (ks := []) (.fl 0 (.fl 1 (.fl 2 (.fl 3 (.fl 4 (.fl 5 (.fx 6 (.fx 7 (.fl 8 (.fl 9 (.fl 10 (.fx 11 (.fx 12 (.fl 13 (.nil)) .stop) .stop)))) .stop) .stop))))))) rfl ?_
    refine OKS.r rfl rfl rfl rfl (fun _ => Runs.mv rfl rfl) ?_
    refine OKS.r rfl rfl rfl rfl (fun _ => Runs.len rfl rfl Try.runUnderlying23) ?_
    refine OKS.r rfl rfl rfl rfl (fun _ => Runs.mv rfl rfl) ?_
    refine OKS.r rfl rfl rfl rfl (fun _ => Runs.len rfl rfl Try.runUnderlying23) ?_
    refine OKS.r rfl rfl rfl rfl (fun _ => Runs.mv rfl rfl) ?_
    refine OKS.r rfl rfl rfl rfl (fun _ => Runs.mv rfl rfl) ?_
    have h13 := ha1.le le8
    have h14 := ha0.le le8
    obtain ⟨x15, h16, hm17⟩ := bnd hm12
    refine OKS.callH 0 rfl rfl rfl rfl (Enters.mk rfl rfl Try.call77 (mapcons rfl (mapcons rfl (mapcons rfl mapnil))) rfl) hS10 (fun hs => w_target_links (↑p0.length : Int) p1 pA1 pc1 p0 pA0 pc0 W7 φ4 hs h13 h14 h16) (.inr rfl) ?_
    rintro φ18 L19 v20 W21 le22 hS23 ⟨A24, c25, c26, rfl, rfl, h28⟩
    have hS29 : St ⟨w, [], φ⟩ φ18 [.row A24 c25 189 5 c26] W21 := hS23
    obtain ⟨φ30, le31, hs32, hS33⟩ := hS29.freezeRR (R := rl189) (k := 0) rfl h28 rfl (by decide)
    have hS34 : St ⟨w, [], φ⟩ φ30 [] W21 := hS33
    obtain ⟨⟨x35, x36⟩, h37, hm38⟩ := bnd hm17
    try dsimp only at hm38
    refine OKS.callH 0 rfl rfl rfl rfl (Enters.mk rfl rfl Try.call76 (mapcons rfl (mapcons rfl mapnil)) rfl) hS34 (fun hs => w_target_distances (↑p0.length : Int) x15 A24 c25 W21 φ30 hs hs32 h37) (.inr rfl) ?_
    rintro φ39 L40 v41 W42 le43 hS44 ⟨rfl, rfl⟩
    have hS45 : St ⟨w, [], φ⟩ φ39 [] W42 := hS44
    refine OKS.r rfl rfl rfl rfl (fun _ => Runs.mv rfl rfl) ?_
    refine OKS.r rfl rfl rfl rfl (fun _ => Runs.ext rfl rfl (v := .agg (List.flatMap encI x35.l).toArray) rfl) ?_
    refine OKS.r rfl rfl rfl rfl (fun _ => Runs.ext rfl rfl (v := .bool x36) rfl) ?_
    refine OKS.alloc (cs := List.flatMap encI (Arr.fill 81 0).l) rfl rfl rfl rfl rfl Try.zeroValue136 rfl hS45 ?_
    intro W46 b47 hS48
    have hS50 : St ⟨w, [], φ⟩ φ39 [.blk b47 136 (List.flatMap encI (Arr.fill 81 0).l)] W46 := hS48
    refine OKS.st (j := 0) (vs := List.flatMap encI x35.l) rfl rfl rfl rfl hS50 rfl rfl rfl rfl (fun w => by rw [whole_len (f := encI) (sz := 1) (N := 81) x35 (fun _ => rfl) rfl]; exact Try.sizeOf136 w) (by rw [whole_len (f := encI) (sz := 1) (N := 81) x35 (fun _ => rfl) rfl, whole_len (f := encI) (sz := 1) (N := 81) (Arr.fill 81 0) (fun _ => rfl) rfl]; exact Nat.le_of_ble_eq_true rfl) (all_one_flat (fun _ => rfl) _) (setN_all _ _ (by rw [whole_len (f := encI) (sz := 1) (N := 81) x35 (fun _ => rfl) rfl, whole_len (f := encI) (sz := 1) (N := 81) (Arr.fill 81 0) (fun _ => rfl) rfl])) rfl ?_
    intro W51 hS52
    have hS53 : St ⟨w, [], φ⟩ φ39 [.blk b47 136 (List.flatMap encI x35.l)] W51 := hS52
    refine OKS.r rfl rfl rfl rfl (fun _ => Runs.as rfl rfl) ?_
    refine OKS.e ?_
    refine thenQ_n ?_
    refine CK.seq ?_
    refine CK.reg (ks := []) (.fl 0 (.fl 1 (.fl 2 (.fl 3 (.nil))))) rfl ?_
    refine OKS.r rfl rfl rfl rfl (fun _ => Runs.mv rfl rfl) ?_
    refine OKS.r rfl rfl rfl rfl (fun _ => Runs.notT rfl rfl) ?_
    refine OKS.r rfl rfl rfl rfl (fun _ => Runs.as rfl rfl) ?_
    refine OKS.r rfl rfl rfl rfl (fun _ => Runs.as rfl rfl) ?_
    refine OKS.e ?_
    refine thenQ_n ?_
    refine CK.ret ?_
    cases hm38
    exact ⟨rfl, _, (res2 rfl rfl), φ39, _, (hS53.pick [] _ (by decide) rfl), rfl, rfl⟩
  · have hm54 := hm3; rw [if_neg c11] at hm54; replace c11 := Hid.mk c11
    refine CK.condT (decT c11.out) ?_
    refine CK.seq ?_
    refine CK.reg (ks := []) (.fl 0 (.fl 1 (.fl 2 (.nil)))) rfl ?_
    refine OKS.r rfl rfl rfl rfl (fun _ => Runs.mv rfl rfl) ?_
    refine OKS.r rfl rfl rfl rfl (fun _ => Runs.as rfl rfl) ?_
    refine OKS.r rfl rfl rfl rfl (fun _ => Runs.as rfl rfl) ?_
    refine OKS.e ?_
    refine thenQ_n ?_
    refine CK.ret ?_
    refine thenQ_r ?_
    cases hm54
    exact ⟨rfl, _, (res2 rfl rfl), φ4, _, hS10, rfl, rfl⟩

theorem w_klisterlaw03_awake (w : World) (φ : PHeap) (hS : St ⟨w, [], φ⟩ φ [] w) {r : Bool} (hm : m_klisterlaw03_awake = some r) : Gv Try.prog 24 [] w (RetS w [] φ (fun φ_ L_ v => v = .bool r ∧ L_ = [])) := by
  cases hm
  refine (xr24 w).mono ?_
  rintro v w' ⟨rfl, k⟩
  exact ⟨φ, [], hS.grow k, rfl, rfl⟩

set_option maxHeartbeats 4000000 in
theorem w_klisterlaw03_TargetWider (p0 : List Int) (pA0 : Option Addr) (pc0 : Nat) (p1 : List Int) (pA1 : Option Addr) (pc1 : Nat) (w : World) (φ : PHeap) (hS : St ⟨w, [], φ⟩ φ [] w) (ha0 : Sl φ 1 pA0 pc0 p0.length (List.flatMap encB8 p0)) (ha1 : Sl φ 1 pA1 pc1 p1.length (List.flatMap encB8 p1)) {r : Bool} (hm : m_klisterlaw03_TargetWider p0 p1 = some r) : Gv Try.prog 3 [.slice pA0 p0.length pc0, .slice pA1 p1.length pc1] w (RetS w [] φ (fun φ_ L_ v => v = .bool r ∧ L_ = [])) := by
  unfold m_klisterlaw03_TargetWider at hm
  refine Gv.of Try.func3 rfl Try.ntmps3 Try.results3 rfl ?_
  refine CK.seq ?_
  refine CK.reg (ks := []) (.fl 0 (.nil)) rfl ?_
  refine OKS.r rfl rfl rfl rfl (fun _ => Runs.as rfl rfl) ?_
  refine OKS.e ?_
  refine thenQ_n ?_
  refine CK.seq ?_
  refine CK.reg (ks := []) (.fl 0 (.fx 1 (.fx 2 (.fl 3 (.fl 4 (.fl 5 (.fl 6 (.fl 7 (.nil)))))) .stop) .stop)) rfl ?_
  refine OKS.r rfl rfl rfl rfl (fun _ => Runs.mv rfl rfl) ?_
  obtain ⟨x1, h2, hm3⟩ := bnd hm
  refine OKS.callH 0 rfl rfl rfl rfl (Enters.mk rfl rfl Try.call15 (mapcons rfl mapnil) rfl) hS (fun hs => w_klisterkit_Of p0 pA0 pc0 w φ hs ha0 h2) (.inr rfl) ?_
  rintro φ4 L5 v6 W7 le8 hS9 ⟨b10, A11, c12, rfl, rfl, h14⟩
  have hS15 : St ⟨w, [], φ⟩ φ4 [.blk b10 134 [.slice A11 x1.bytes.length c12, .int .i64 x1.next, .int .u32 x1.state]] W7 := hS9
  obtain ⟨⟨x16, x17, x18⟩, h19, hm20⟩ := bnd hm3
  try dsimp only at hm20
  refine OKS.callH 1 rfl rfl rfl rfl (Enters.mk rfl rfl Try.call14 (mapcons rfl (mapcons rfl (mapcons rfl mapnil))) rfl) hS15 (fun hs => w_klisterlaw03_Counted x1 b10 A11 c12 7 2 W7 φ4 hs h14 h19) (.inl rfl) ?_
  rintro φ21 L22 v23 W24 le25 hS26 ⟨A27, c28, A29, c30, A31, c32, rfl, rfl, h34, h35⟩
  have hS36 : St ⟨w, [], φ⟩ φ21 [.row A29 c30 33 4 (List.flatMap encT_target_Sheet x17), .blk b10 134 [.slice A31 x18.bytes.length c32, .int .i64 x18.next, .int .u32 x18.state]] W24 := hS26
  refine OKS.r rfl rfl rfl rfl (fun _ => Runs.mv rfl rfl) ?_
  refine OKS.r rfl rfl rfl rfl (fun _ => Runs.ext rfl rfl (v := .slice A27 x16.length c28) rfl) ?_
  refine OKS.r rfl rfl rfl rfl (fun _ => Runs.ext rfl rfl (v := .slice A29 x17.length c30) rfl) ?_
  refine OKS.r rfl rfl rfl rfl (fun _ => Runs.as rfl rfl) ?_
  refine OKS.r rfl rfl rfl rfl (fun _ => Runs.as rfl rfl) ?_
  refine OKS.e ?_
  refine thenQ_n ?_
  refine CK.seq ?_
  refine CK.reg (ks := []) (.fl 0 (.fl 1 (.fl 2 (.nil)))) rfl ?_
  refine OKS.r rfl rfl rfl rfl (fun _ => Runs.mv rfl rfl) ?_
  refine OKS.r rfl rfl rfl rfl (fun _ => Runs.len rfl rfl Try.runUnderlying23) ?_
  refine OKS.r rfl rfl rfl rfl (fun _ => Runs.as rfl rfl) ?_
  refine OKS.e ?_
  refine thenQ_n ?_
  refine CK.seq ?_
  refine CK.reg (ks := []) (.fl 0 (.fx 1 (.fl 2 (.nil)) .stop)) rfl ?_
  refine OKS.r rfl rfl rfl rfl (fun _ => Runs.mv rfl rfl) ?_
  have h37 := ha1.le le8
  have h38 := h37.le le25
  obtain ⟨x39, h40, hm41⟩ := bnd hm20
  refine OKS.callH 0 rfl rfl rfl rfl (Enters.mk rfl rfl Try.call15 (mapcons rfl mapnil) rfl) hS36 (fun hs => w_klisterkit_Of p1 pA1 pc1 W24 φ21 hs h38 h40) (.inr rfl) ?_
  rintro φ42 L43 v44 W45 le46 hS47 ⟨b48, A49, c50, rfl, rfl, h52⟩
  have hS53 : St ⟨w, [], φ⟩ φ42 [.blk b48 134 [.slice A49 x39.bytes.length c50, .int .i64 x39.next, .int .u32 x39.state], .row A29 c30 33 4 (List.flatMap encT_target_Sheet x17), .blk b10 134 [.slice A31 x18.bytes.length c32, .int .i64 x18.next, .int .u32 x18.state]] W45 := hS47
  refine OKS.r rfl rfl rfl rfl (fun _ => Runs.as rfl rfl) ?_
  refine OKS.e ?_
  refine thenQ_n ?_
  refine CK.seq ?_
  refine CK.reg (ks := []) (.fl 0 (.fx 1 (.fl 2 (.nil)) .stop)) rfl ?_
  refine OKS.r rfl rfl rfl rfl (fun _ => Runs.mv rfl rfl) ?_
  obtain ⟨φ54, le55, hs56, hS57⟩ := hS53.freezeR (k := 1) (n := x17.length) rfl (flatMap_len (f := encT_target_Sheet) (sz := 4) (fun _ => rfl) x17) (by decide)
  have hS58 : St ⟨w, [], φ⟩ φ54 [.blk b48 134 [.slice A49 x39.bytes.length c50, .int .i64 x39.next, .int .u32 x39.state], .blk b10 134 [.slice A31 x18.bytes.length c32, .int .i64 x18.next, .int .u32 x18.state]] W45 := hS57
  obtain ⟨x59, h60, hm61⟩ := bnd hm41
  refine OKS.callH 0 rfl rfl rfl rfl (Enters.mk rfl rfl Try.call16 (mapcons rfl mapnil) rfl) hS58 (fun hs => w_klisterkit_Clone_target_Sheet x17 A29 c30 W45 φ54 hs hs56 h60) (.inr rfl) ?_
  rintro φ62 L63 v64 W65 le66 hS67 ⟨A68, c69, rfl, rfl⟩
  have hS71 : St ⟨w, [], φ⟩ φ62 [.row A68 c69 33 4 (List.flatMap encT_target_Sheet x59), .blk b48 134 [.slice A49 x39.bytes.length c50, .int .i64 x39.next, .int .u32 x39.state], .blk b10 134 [.slice A31 x18.bytes.length c32, .int .i64 x18.next, .int .u32 x18.state]] W65 := hS67
  refine OKS.r rfl rfl rfl rfl (fun _ => Runs.as rfl rfl) ?_
  refine OKS.e ?_
  refine thenQ_n ?_
  refine CK.seq ?_
  refine CK.reg (ks := []) (.fl 0 (.nil)) rfl ?_
  refine OKS.r rfl rfl rfl rfl (fun _ => Runs.as rfl rfl) ?_
  refine OKS.e ?_
  refine thenQ_n ?_
  refine CK.seq ?_
  refine CK.seq ?_
  refine CK.reg (ks := []) (.fl 0 (.fl 1 (.fl 2 (.nil)))) rfl ?_
  refine OKS.r rfl rfl rfl rfl (fun _ => Runs.mv rfl rfl) ?_
  refine OKS.r rfl rfl rfl rfl (fun _ => Runs.len rfl rfl Try.runUnderlying24) ?_
  refine OKS.r rfl rfl rfl rfl (fun _ => Runs.mv rfl rfl) ?_
  refine OKS.e ?_
  refine thenQ_n ?_
  refine CK.block ?_
  obtain ⟨⟨y118, y119, y120, y121, y122⟩, hf115, hm114⟩ := bnd hm61
  try dsimp only at hm114
  obtain ⟨hle116, hf117⟩ := forR'_le hf115
  replace hle116 := Hid.mk hle116
  refine CK.forN' (fun k113 (l103, x106, x107, l108, l109) σ_ w_ => ∃ (φ_ : PHeap) (A104 : Option Addr) (c105 : Nat) (A110 : Option Addr) (c111 : Nat), σ_ 42 = .int .i64 (↑k113 : Int) ∧ σ_ 5 = .slice A27 x16.length c28 ∧ σ_ 6 = .slice A29 x17.length c30 ∧ σ_ 7 = .int .i64 (↑x16.length : Int) ∧ σ_ 8 = .pointer (some ⟨b48, 0, none⟩) ∧ σ_ 9 = .slice A68 l108.length c69 ∧ σ_ 10 = .slice A110 l109.length c111 ∧ σ_ 40 = .slice A29 x17.length c30 ∧ σ_ 41 = .int .i64 (↑x17.length : Int) ∧ PHeap.Le φ62 φ_ ∧ St ⟨w, [], φ⟩ φ_ [.blk b48 134 [.slice A104 l103.length c105, .int .i64 x106, .int .u32 x107], .blk b10 134 [.slice A31 x18.bytes.length c32, .int .i64 x18.next, .int .u32 x18.state], .row A68 c69 33 4 (List.flatMap encT_target_Sheet l108), .row A110 c111 33 4 (List.flatMap encT_target_Sheet l109)] w_ ∧ Sl φ_ 1 A104 c105 l103.length (List.flatMap encB8 l103) ∧ l108.length = x59.length) hf117 ?_ ?_ ?_
  · have hS123 := hS71.nilrow 33 4
    have h125 := h52.le le55
    have h126 := h125.le le66
    exact ⟨φ62, A49, c50, none, 0, rfl, rfl, rfl, rfl, rfl, rfl, rfl, rfl, rfl, (PHeap.Le.refl _), (hS123.pick [2, 3, 1, 0] _ (by decide) rfl), h126, (by first | rfl | assumption | (simp only [List.length_set]; first | rfl | assumption))⟩
  · rintro k113 ⟨l103, x106, x107, l108, l109⟩ xx129 σ127 W128 hk132 ⟨φ134, A104, c105, A110, c111, fi133, f137, f138, f139, f140, f141, f142, f143, f144, le135, hS136, h145, h146⟩ hx130
    try dsimp only at hx130
    have c147 : Hid ((↑k113 : Int) < (↑x17.length : Int)) := Hid.mk (lp_lt0 hk132)
    replace hk132 := Hid.mk hk132
    have hi148 : Hid (w64 ((↑k113 : Int) + 1) = (↑(k113 + 1) : Int)) := Hid.mk (by have h1 := hle116.out; have h2 := c147.out; rw [w64_in] <;> omega)
    refine CK.seq ?_
    refine CK.reg (ks := []) (.fl 0 (.nil)) rfl ?_
    refine OKS.r rfl rfl rfl rfl (fun _ => Runs.lss rfl fi133 f144) ?_
    refine OKS.e ?_
    refine thenQ_n ?_
    refine CK.seq ?_
    refine CK.condT (decT c147.out) ?_
    refine CK.skip ?_
    refine thenQ_n ?_
    refine CK.seq ?_
    refine CK.block ?_
    refine CK.seq ?_
    refine CK.reg (ks := []) (.fl 0 (.fl 1 (.fl 2 (.fx 3 (.fl 4 (.fx 5 (.nil) .stop)) .stop)))) rfl ?_
    refine OKS.r rfl rfl rfl rfl (fun _ => Runs.mv rfl fi133) ?_
    obtain ⟨x149, h150, hm151⟩ := bnd hx130
    have h152 := hs56.le le66
    have h153 := h152.le le135
    obtain ⟨b154, off155, hA156, hC157⟩ := h153.el (fun _ => rfl) (idx_get h150)
    refine OKS.r rfl rfl rfl rfl (fun _ => Runs.iaN rfl f143 hA156 fi133 Try.runUnderlying24 Try.sizeOf33 (idx_lt h150)) ?_
    refine OKS.m rfl rfl rfl rfl (hS136.ldCA (f := 0) hC157 rfl rfl Try.isAgg33 Try.sizeOf33 (us := [.int .i64 x149.From, .int .i64 x149.To, .int .i64 x149.Loops.Lo, .int .i64 x149.Loops.Hi]) rfl rfl) rfl ?_
    refine OKS.alloc (cs := [.int .i64 0, .int .i64 0, .int .i64 0, .int .i64 0]) rfl rfl rfl rfl rfl Try.zeroValue33 rfl hS136 ?_
    intro W158 b159 hS160
    refine OKS.r rfl rfl rfl rfl (fun _ => Runs.as rfl rfl) ?_
    refine OKS.st (j := 0) (vs := [.int .i64 x149.From, .int .i64 x149.To, .int .i64 x149.Loops.Lo, .int .i64 x149.Loops.Hi]) rfl rfl rfl rfl hS160 rfl rfl rfl rfl Try.sizeOf33 (Nat.le_of_ble_eq_true rfl) rfl rfl rfl ?_
    intro W162 hS163
    have hS164 : St ⟨w, [], φ⟩ φ134 [.blk b159 33 [.int .i64 x149.From, .int .i64 x149.To, .int .i64 x149.Loops.Lo, .int .i64 x149.Loops.Hi], .blk b48 134 [.slice A104 l103.length c105, .int .i64 x106, .int .u32 x107], .blk b10 134 [.slice A31 x18.bytes.length c32, .int .i64 x18.next, .int .u32 x18.state], .row A68 c69 33 4 (List.flatMap encT_target_Sheet l108), .row A110 c111 33 4 (List.flatMap encT_target_Sheet l109)] W162 := hS163
    refine OKS.e ?_
    refine thenQ_n ?_
    obtain ⟨⟨l165, x168, x169, l170⟩, hx172, hm173⟩ := bnd hm151
    try dsimp only at hm173
    refine CK.cut (fun σ_ w_ => ∃ (φ_ : PHeap) (A166 : Option Addr) (c167 : Nat), σ_ 5 = .slice A27 x16.length c28 ∧ σ_ 6 = .slice A29 x17.length c30 ∧ σ_ 7 = .int .i64 (↑x16.length : Int) ∧ σ_ 8 = .pointer (some ⟨b48, 0, none⟩) ∧ σ_ 9 = .slice A68 l170.length c69 ∧ σ_ 10 = .slice A110 l109.length c111 ∧ σ_ 12 = .pointer (some ⟨b159, 0, none⟩) ∧ σ_ 40 = .slice A29 x17.length c30 ∧ σ_ 41 = .int .i64 (↑x17.length : Int) ∧ σ_ 42 = .int .i64 (↑k113 : Int) ∧ PHeap.Le φ134 φ_ ∧ St ⟨w, [], φ⟩ φ_ [.blk b48 134 [.slice A166 l165.length c167, .int .i64 x168, .int .u32 x169], .blk b159 33 [.int .i64 x149.From, .int .i64 x149.To, .int .i64 x149.Loops.Lo, .int .i64 x149.Loops.Hi], .blk b10 134 [.slice A31 x18.bytes.length c32, .int .i64 x18.next, .int .u32 x18.state], .row A68 c69 33 4 (List.flatMap encT_target_Sheet l170), .row A110 c111 33 4 (List.flatMap encT_target_Sheet l109)] w_ ∧ Sl φ_ 1 A166 c167 l165.length (List.flatMap encB8 l165) ∧ l170.length = x59.length) ?_ ?_
    · obtain ⟨⟨x174, x175⟩, h176, hm221⟩ := bnd hx172
      try dsimp only at hm221
      obtain ⟨⟨x189, x190⟩, h191, hm222⟩ := bnd hm221
      try dsimp only at hm222
      obtain ⟨x203, h204, hm223⟩ := bnd hm222
      obtain ⟨_, h213, hm224⟩ := bnd hm223
      refine CK.anyOrd Try.mixed [3, 3, 3, 3, 0, 3, 0, 3, 3, 3, 3, 0, 3, 0, 3, 3, 2, 3, 3, 0] (.fl 0 (.fl 1 (.fl 2 (.fl 3 (.fl 5 (.fl 9 (.fl 10 (.fl 12 (.fx 4 (.fx 6 (.fl 7 (.fl 8 (.fx 11 (.fx 13 (.fl 14 (.fl 15 (.fx 16 (.fl 17 (.fl 18 (.fx 19 (.nil) (.stop)))) (.stop)))) (.stop)) (.fx 13 (.fx 11 (.fl 14 (.fl 15 (.fx 16 (.fl 17 (.fl 18 (.fx 19 (.nil) (.stop)))) (.stop)))) (.stop)) (.stop))))) (.fx 11 (.fx 6 (.fl 7 (.fl 8 (.fx 13 (.fl 14 (.fl 15 (.fx 16 (.fl 17 (.fl 18 (.fx 19 (.nil) (.stop)))) (.stop)))) (.stop)))) (.stop)) (.stop))) (.fx 6 (.fx 4 (.fl 7 (.fl 8 (.fx 11 (.fx 13 (.fl 14 (.fl 15 (.fx 16 (.fl 17 (.fl 18 (.fx 19 (.nil) (.stop)))) (.stop)))) (.stop)) (.fx 13 (.fx 11 (.fl 14 (.fl 15 (.fx 16 (.fl 17 (.fl 18 (.fx 19 (.nil) (.stop)))) (.stop)))) (.stop)) (.stop))))) (.fx 11 (.fx 4 (.fl 7 (.fl 8 (.fx 13 (.fl 14 (.fl 15 (.fx 16 (.fl 17 (.fl 18 (.fx 19 (.nil) (.stop)))) (.stop)))) (.stop)))) (.fx 13 (.fl 14 (.fl 15 (.fx 4 (.fl 7 (.fl 8 (.fx 16 (.fl 17 (.fl 18 (.fx 19 (.nil) (.stop)))) (.stop)))) (.stop)))) (.stop))) (.fx 13 (.fx 4 (.fl 7 (.fl 8 (.fx 11 (.fl 14 (.fl 15 (.fx 16 (.fl 17 (.fl 18 (.fx 19 (.nil) (.stop)))) (.stop)))) (.stop)))) (.fx 11 (.fl 14 (.fl 15 (.fx 4 (.fl 7 (.fl 8 (.fx 16 (.fl 17 (.fl 18 (.fx 19 (.nil) (.stop)))) (.stop)))) (.stop)))) (.stop))) (.stop)))) (.fx 11 (.fx 4 (.fx 6 (.fl 7 (.fl 8 (.fx 13 (.fl 14 (.fl 15 (.fx 16 (.fl 17 (.fl 18 (.fx 19 (.nil) (.stop)))) (.stop)))) (.stop)))) (.stop)) (.fx 6 (.fx 4 (.fl 7 (.fl 8 (.fx 13 (.fl 14 (.fl 15 (.fx 16 (.fl 17 (.fl 18 (.fx 19 (.nil) (.stop)))) (.stop)))) (.stop)))) (.fx 13 (.fl 14 (.fl 15 (.fx 4 (.fl 7 (.fl 8 (.fx 16 (.fl 17 (.fl 18 (.fx 19 (.nil) (.stop)))) (.stop)))) (.stop)))) (.stop))) (.stop))) (.stop)))))))))))) (by kernel_rfl) ?_
      have hS225 := hS164.drew
      generalize hw_W226 : ({ W162 with drawn := W162.drawn + 1 } : World) = W226 at hS225 ⊢
      refine OKS.r rfl rfl rfl rfl (fun _ => Runs.mv rfl f141) ?_
      refine OKS.r rfl rfl rfl rfl (fun _ => Runs.mv rfl rfl) ?_
      refine OKS.r rfl rfl rfl rfl (fun _ => Runs.fa rfl rfl Try.runUnderlying33 rfl Try.sizeOf31) ?_
      refine OKS.r rfl rfl rfl rfl (fun _ => Runs.fa rfl rfl Try.runUnderlying31 rfl Try.sizeOf3) ?_
      refine OKS.r rfl rfl rfl rfl (fun _ => Runs.mv rfl f140) ?_
      refine OKS.r rfl rfl rfl rfl (fun _ => Runs.fa rfl rfl Try.runUnderlying33 rfl Try.sizeOf31) ?_
      refine OKS.r rfl rfl rfl rfl (fun _ => Runs.fa rfl rfl Try.runUnderlying31 rfl Try.sizeOf3) ?_
      refine OKS.r rfl rfl rfl rfl (fun _ => Runs.mv rfl f140) ?_
      refine OKS.both ?_ ?_
      · refine OKS.mx rfl rfl rfl rfl (hS225.ldB (j := 0) rfl rfl rfl Try.isAgg3 (v := .int .i64 x149.Loops.Lo) rfl) rfl ?_
        refine OKS.both ?_ ?_
        · have hS229 : St ⟨w, [], φ⟩ φ134 [.blk b48 134 [.slice A104 l103.length c105, .int .i64 x106, .int .u32 x107], .blk b159 33 [.int .i64 x149.From, .int .i64 x149.To, .int .i64 x149.Loops.Lo, .int .i64 x149.Loops.Hi], .blk b10 134 [.slice A31 x18.bytes.length c32, .int .i64 x18.next, .int .u32 x18.state], .row A68 c69 33 4 (List.flatMap encT_target_Sheet l108), .row A110 c111 33 4 (List.flatMap encT_target_Sheet l109)] W226 := hS225.pick [1, 0, 2, 3, 4] _ (by decide) rfl
          refine OKS.callH 1 rfl rfl rfl rfl (Enters.mk rfl rfl Try.call18 (mapcons rfl (mapcons rfl mapnil)) rfl) hS229 (fun hs => w_klisterkit_Deck_Draw (⟨l103, x106, x107⟩ : T_klisterkit_Deck) b48 A104 c105 3 W226 φ134 hs h145 h176) (.inl rfl) ?_
          rintro φ230 L231 v232 W233 le234 hS235 ⟨A236, c237, rfl, rfl, h238⟩
          have hS239 : St ⟨w, [], φ⟩ φ230 [.blk b48 134 [.slice A236 x175.bytes.length c237, .int .i64 x175.next, .int .u32 x175.state], .blk b159 33 [.int .i64 x149.From, .int .i64 x149.To, .int .i64 x149.Loops.Lo, .int .i64 x149.Loops.Hi], .blk b10 134 [.slice A31 x18.bytes.length c32, .int .i64 x18.next, .int .u32 x18.state], .row A68 c69 33 4 (List.flatMap encT_target_Sheet l108), .row A110 c111 33 4 (List.flatMap encT_target_Sheet l109)] W233 := hS235
          refine OKS.r rfl rfl rfl rfl (fun _ => Runs.subw rfl rfl rfl) ?_
          refine OKS.r rfl rfl rfl rfl (fun _ => Runs.max rfl rfl rfl) ?_
          refine OKS.both ?_ ?_
          · refine OKS.mx rfl rfl rfl rfl (hS239.ldB (j := 1) rfl rfl rfl Try.isAgg3 (v := .int .i64 x149.Loops.Hi) rfl) rfl ?_
            refine OKS.callH 1 rfl rfl rfl rfl (Enters.mk rfl rfl Try.call18 (mapcons rfl (mapcons rfl mapnil)) rfl) hS239 (fun hs => w_klisterkit_Deck_Draw x175 b48 A236 c237 3 W233 φ230 hs h238 h191) (.inl rfl) ?_
            rintro φ242 L243 v244 W245 le246 hS247 ⟨A248, c249, rfl, rfl, h250⟩
            have hS251 : St ⟨w, [], φ⟩ φ242 [.blk b48 134 [.slice A248 x190.bytes.length c249, .int .i64 x190.next, .int .u32 x190.state], .blk b159 33 [.int .i64 x149.From, .int .i64 x149.To, .int .i64 x149.Loops.Lo, .int .i64 x149.Loops.Hi], .blk b10 134 [.slice A31 x18.bytes.length c32, .int .i64 x18.next, .int .u32 x18.state], .row A68 c69 33 4 (List.flatMap encT_target_Sheet l108), .row A110 c111 33 4 (List.flatMap encT_target_Sheet l109)] W245 := hS247
            refine OKS.r rfl rfl rfl rfl (fun _ => Runs.addw rfl rfl rfl) ?_
            refine OKS.r rfl rfl rfl rfl (fun _ => Runs.min rfl rfl rfl) ?_
            refine OKS.callH 0 rfl rfl rfl rfl (Enters.mk rfl rfl Try.call17 (mapcons rfl (mapcons rfl mapnil)) rfl) hS251 (fun hs => w_klisterlaw03_span (max 0 (w64 (x149.Loops.Lo - x174))) (min 72 (w64 (x149.Loops.Hi + x189))) W245 φ242 hs h204) (.inr rfl) ?_
            rintro φ253 L254 v255 W256 le257 hS258 ⟨rfl, rfl⟩
            have hS259 : St ⟨w, [], φ⟩ φ253 [.blk b48 134 [.slice A248 x190.bytes.length c249, .int .i64 x190.next, .int .u32 x190.state], .blk b159 33 [.int .i64 x149.From, .int .i64 x149.To, .int .i64 x149.Loops.Lo, .int .i64 x149.Loops.Hi], .blk b10 134 [.slice A31 x18.bytes.length c32, .int .i64 x18.next, .int .u32 x18.state], .row A68 c69 33 4 (List.flatMap encT_target_Sheet l108), .row A110 c111 33 4 (List.flatMap encT_target_Sheet l109)] W256 := hS258
            obtain ⟨b260, hA261⟩ := hS259.rowSome (j := 3) rfl (by rw [flatMap_len (f := encT_target_Sheet) (sz := 4) (fun _ => rfl) l108]; have hz := chk_lt h213; omega)
            refine OKS.r rfl rfl rfl rfl (fun _ => Runs.iaN rfl rfl hA261 rfl Try.runUnderlying24 Try.sizeOf33 (chk_lt h213)) ?_
            refine OKS.r rfl rfl rfl rfl (fun _ => Runs.fa rfl rfl Try.runUnderlying33 rfl Try.sizeOf31) ?_
            have hg262 := gd_at (xs := l108) (chk_lt h213)
            refine OKS.stR (j := 3) (vs := [.int .i64 x203.Lo, .int .i64 x203.Hi]) (cs' := List.flatMap encT_target_Sheet (List.set l108 k113 (⟨(gd l108 k113).From, (gd l108 k113).To, x203⟩ : T_target_Sheet))) rfl rfl rfl rfl hS259 rfl hA261 rfl rfl rfl Try.sizeOf31 (by rw [flatMap_len (f := encT_target_Sheet) (sz := 4) (fun _ => rfl)]; have hz := chk_lt h213; simp only [List.getElem_toArray, List.getElem_cons_succ, List.getElem_cons_zero, List.length_cons, List.length_nil]; omega) rfl (setN_at (sz := 4) (fo := 2) (fun _ => rfl) _ _ _ _ hg262 (by first | omega | (simp only [List.getElem_toArray, List.getElem_cons_succ, List.getElem_cons_zero]; omega)) (Nat.le_of_ble_eq_true rfl) rfl) rfl ?_
            intro W263 hS264
            have hS265 : St ⟨w, [], φ⟩ φ253 [.blk b48 134 [.slice A248 x190.bytes.length c249, .int .i64 x190.next, .int .u32 x190.state], .blk b159 33 [.int .i64 x149.From, .int .i64 x149.To, .int .i64 x149.Loops.Lo, .int .i64 x149.Loops.Hi], .blk b10 134 [.slice A31 x18.bytes.length c32, .int .i64 x18.next, .int .u32 x18.state], .row A68 c69 33 4 (List.flatMap encT_target_Sheet (List.set l108 k113 (⟨(gd l108 k113).From, (gd l108 k113).To, x203⟩ : T_target_Sheet))), .row A110 c111 33 4 (List.flatMap encT_target_Sheet l109)] W263 := hS264
            refine OKS.e ?_
            cases hm224
            have h272 := h250.le le257
            exact thenQ_n ⟨rfl, ⟨φ253, A248, c249, f137, f138, f139, f140, (Eq.trans (b := (.slice A68 l108.length c69 : Value)) (c := (.slice A68 ((List.set l108 k113 (⟨(gd l108 k113).From, (gd l108 k113).To, x203⟩ : T_target_Sheet)).length) c69 : Value)) f141 (by simp only [List.length_set])), f142, rfl, f143, f144, fi133, ((le234.trans le246).trans le257), hS265, h272, (by first | rfl | assumption | (simp only [List.length_set]; first | rfl | assumption))⟩⟩
          · refine OKS.callH 1 rfl rfl rfl rfl (Enters.mk rfl rfl Try.call18 (mapcons rfl (mapcons rfl mapnil)) rfl) hS239 (fun hs => w_klisterkit_Deck_Draw x175 b48 A236 c237 3 W233 φ230 hs h238 h191) (.inl rfl) ?_
            rintro φ275 L276 v277 W278 le279 hS280 ⟨A281, c282, rfl, rfl, h283⟩
            have hS284 : St ⟨w, [], φ⟩ φ275 [.blk b48 134 [.slice A281 x190.bytes.length c282, .int .i64 x190.next, .int .u32 x190.state], .blk b159 33 [.int .i64 x149.From, .int .i64 x149.To, .int .i64 x149.Loops.Lo, .int .i64 x149.Loops.Hi], .blk b10 134 [.slice A31 x18.bytes.length c32, .int .i64 x18.next, .int .u32 x18.state], .row A68 c69 33 4 (List.flatMap encT_target_Sheet l108), .row A110 c111 33 4 (List.flatMap encT_target_Sheet l109)] W278 := hS280
            refine OKS.mx rfl rfl rfl rfl (hS284.ldB (j := 1) rfl rfl rfl Try.isAgg3 (v := .int .i64 x149.Loops.Hi) rfl) rfl ?_
            refine OKS.r rfl rfl rfl rfl (fun _ => Runs.addw rfl rfl rfl) ?_
            refine OKS.r rfl rfl rfl rfl (fun _ => Runs.min rfl rfl rfl) ?_
            refine OKS.callH 0 rfl rfl rfl rfl (Enters.mk rfl rfl Try.call17 (mapcons rfl (mapcons rfl mapnil)) rfl) hS284 (fun hs => w_klisterlaw03_span (max 0 (w64 (x149.Loops.Lo - x174))) (min 72 (w64 (x149.Loops.Hi + x189))) W278 φ275 hs h204) (.inr rfl) ?_
            rintro φ286 L287 v288 W289 le290 hS291 ⟨rfl, rfl⟩
            have hS292 : St ⟨w, [], φ⟩ φ286 [.blk b48 134 [.slice A281 x190.bytes.length c282, .int .i64 x190.next, .int .u32 x190.state], .blk b159 33 [.int .i64 x149.From, .int .i64 x149.To, .int .i64 x149.Loops.Lo, .int .i64 x149.Loops.Hi], .blk b10 134 [.slice A31 x18.bytes.length c32, .int .i64 x18.next, .int .u32 x18.state], .row A68 c69 33 4 (List.flatMap encT_target_Sheet l108), .row A110 c111 33 4 (List.flatMap encT_target_Sheet l109)] W289 := hS291
            obtain ⟨b293, hA294⟩ := hS292.rowSome (j := 3) rfl (by rw [flatMap_len (f := encT_target_Sheet) (sz := 4) (fun _ => rfl) l108]; have hz := chk_lt h213; omega)
            refine OKS.r rfl rfl rfl rfl (fun _ => Runs.iaN rfl rfl hA294 rfl Try.runUnderlying24 Try.sizeOf33 (chk_lt h213)) ?_
            refine OKS.r rfl rfl rfl rfl (fun _ => Runs.fa rfl rfl Try.runUnderlying33 rfl Try.sizeOf31) ?_
            have hg295 := gd_at (xs := l108) (chk_lt h213)
            refine OKS.stR (j := 3) (vs := [.int .i64 x203.Lo, .int .i64 x203.Hi]) (cs' := List.flatMap encT_target_Sheet (List.set l108 k113 (⟨(gd l108 k113).From, (gd l108 k113).To, x203⟩ : T_target_Sheet))) rfl rfl rfl rfl hS292 rfl hA294 rfl rfl rfl Try.sizeOf31 (by rw [flatMap_len (f := encT_target_Sheet) (sz := 4) (fun _ => rfl)]; have hz := chk_lt h213; simp only [List.getElem_toArray, List.getElem_cons_succ, List.getElem_cons_zero, List.length_cons, List.length_nil]; omega) rfl (setN_at (sz := 4) (fo := 2) (fun _ => rfl) _ _ _ _ hg295 (by first | omega | (simp only [List.getElem_toArray, List.getElem_cons_succ, List.getElem_cons_zero]; omega)) (Nat.le_of_ble_eq_true rfl) rfl) rfl ?_
            intro W296 hS297
            have hS298 : St ⟨w, [], φ⟩ φ286 [.blk b48 134 [.slice A281 x190.bytes.length c282, .int .i64 x190.next, .int .u32 x190.state], .blk b159 33 [.int .i64 x149.From, .int .i64 x149.To, .int .i64 x149.Loops.Lo, .int .i64 x149.Loops.Hi], .blk b10 134 [.slice A31 x18.bytes.length c32, .int .i64 x18.next, .int .u32 x18.state], .row A68 c69 33 4 (List.flatMap encT_target_Sheet (List.set l108 k113 (⟨(gd l108 k113).From, (gd l108 k113).To, x203⟩ : T_target_Sheet))), .row A110 c111 33 4 (List.flatMap encT_target_Sheet l109)] W296 := hS297
            refine OKS.e ?_
            cases hm224
            have h305 := h283.le le290
            exact thenQ_n ⟨rfl, ⟨φ286, A281, c282, f137, f138, f139, f140, (Eq.trans (b := (.slice A68 l108.length c69 : Value)) (c := (.slice A68 ((List.set l108 k113 (⟨(gd l108 k113).From, (gd l108 k113).To, x203⟩ : T_target_Sheet)).length) c69 : Value)) f141 (by simp only [List.length_set])), f142, rfl, f143, f144, fi133, ((le234.trans le279).trans le290), hS298, h305, (by first | rfl | assumption | (simp only [List.length_set]; first | rfl | assumption))⟩⟩
        · refine OKS.mx rfl rfl rfl rfl (hS225.ldB (j := 0) rfl rfl rfl Try.isAgg3 (v := .int .i64 x149.Loops.Hi) rfl) rfl ?_
          have hS308 : St ⟨w, [], φ⟩ φ134 [.blk b48 134 [.slice A104 l103.length c105, .int .i64 x106, .int .u32 x107], .blk b159 33 [.int .i64 x149.From, .int .i64 x149.To, .int .i64 x149.Loops.Lo, .int .i64 x149.Loops.Hi], .blk b10 134 [.slice A31 x18.bytes.length c32, .int .i64 x18.next, .int .u32 x18.state], .row A68 c69 33 4 (List.flatMap encT_target_Sheet l108), .row A110 c111 33 4 (List.flatMap encT_target_Sheet l109)] W226 := hS225.pick [1, 0, 2, 3, 4] _ (by decide) rfl
          refine OKS.callH 1 rfl rfl rfl rfl (Enters.mk rfl rfl Try.call18 (mapcons rfl (mapcons rfl mapnil)) rfl) hS308 (fun hs => w_klisterkit_Deck_Draw (⟨l103, x106, x107⟩ : T_klisterkit_Deck) b48 A104 c105 3 W226 φ134 hs h145 h176) (.inl rfl) ?_
          rintro φ309 L310 v311 W312 le313 hS314 ⟨A315, c316, rfl, rfl, h317⟩
          have hS318 : St ⟨w, [], φ⟩ φ309 [.blk b48 134 [.slice A315 x175.bytes.length c316, .int .i64 x175.next, .int .u32 x175.state], .blk b159 33 [.int .i64 x149.From, .int .i64 x149.To, .int .i64 x149.Loops.Lo, .int .i64 x149.Loops.Hi], .blk b10 134 [.slice A31 x18.bytes.length c32, .int .i64 x18.next, .int .u32 x18.state], .row A68 c69 33 4 (List.flatMap encT_target_Sheet l108), .row A110 c111 33 4 (List.flatMap encT_target_Sheet l109)] W312 := hS314
          refine OKS.r rfl rfl rfl rfl (fun _ => Runs.subw rfl rfl rfl) ?_
          refine OKS.r rfl rfl rfl rfl (fun _ => Runs.max rfl rfl rfl) ?_
          refine OKS.callH 1 rfl rfl rfl rfl (Enters.mk rfl rfl Try.call18 (mapcons rfl (mapcons rfl mapnil)) rfl) hS318 (fun hs => w_klisterkit_Deck_Draw x175 b48 A315 c316 3 W312 φ309 hs h317 h191) (.inl rfl) ?_
          rintro φ321 L322 v323 W324 le325 hS326 ⟨A327, c328, rfl, rfl, h329⟩
          have hS330 : St ⟨w, [], φ⟩ φ321 [.blk b48 134 [.slice A327 x190.bytes.length c328, .int .i64 x190.next, .int .u32 x190.state], .blk b159 33 [.int .i64 x149.From, .int .i64 x149.To, .int .i64 x149.Loops.Lo, .int .i64 x149.Loops.Hi], .blk b10 134 [.slice A31 x18.bytes.length c32, .int .i64 x18.next, .int .u32 x18.state], .row A68 c69 33 4 (List.flatMap encT_target_Sheet l108), .row A110 c111 33 4 (List.flatMap encT_target_Sheet l109)] W324 := hS326
          refine OKS.r rfl rfl rfl rfl (fun _ => Runs.addw rfl rfl rfl) ?_
          refine OKS.r rfl rfl rfl rfl (fun _ => Runs.min rfl rfl rfl) ?_
          refine OKS.callH 0 rfl rfl rfl rfl (Enters.mk rfl rfl Try.call17 (mapcons rfl (mapcons rfl mapnil)) rfl) hS330 (fun hs => w_klisterlaw03_span (max 0 (w64 (x149.Loops.Lo - x174))) (min 72 (w64 (x149.Loops.Hi + x189))) W324 φ321 hs h204) (.inr rfl) ?_
          rintro φ332 L333 v334 W335 le336 hS337 ⟨rfl, rfl⟩
          have hS338 : St ⟨w, [], φ⟩ φ332 [.blk b48 134 [.slice A327 x190.bytes.length c328, .int .i64 x190.next, .int .u32 x190.state], .blk b159 33 [.int .i64 x149.From, .int .i64 x149.To, .int .i64 x149.Loops.Lo, .int .i64 x149.Loops.Hi], .blk b10 134 [.slice A31 x18.bytes.length c32, .int .i64 x18.next, .int .u32 x18.state], .row A68 c69 33 4 (List.flatMap encT_target_Sheet l108), .row A110 c111 33 4 (List.flatMap encT_target_Sheet l109)] W335 := hS337
          obtain ⟨b339, hA340⟩ := hS338.rowSome (j := 3) rfl (by rw [flatMap_len (f := encT_target_Sheet) (sz := 4) (fun _ => rfl) l108]; have hz := chk_lt h213; omega)
          refine OKS.r rfl rfl rfl rfl (fun _ => Runs.iaN rfl rfl hA340 rfl Try.runUnderlying24 Try.sizeOf33 (chk_lt h213)) ?_
          refine OKS.r rfl rfl rfl rfl (fun _ => Runs.fa rfl rfl Try.runUnderlying33 rfl Try.sizeOf31) ?_
          have hg341 := gd_at (xs := l108) (chk_lt h213)
          refine OKS.stR (j := 3) (vs := [.int .i64 x203.Lo, .int .i64 x203.Hi]) (cs' := List.flatMap encT_target_Sheet (List.set l108 k113 (⟨(gd l108 k113).From, (gd l108 k113).To, x203⟩ : T_target_Sheet))) rfl rfl rfl rfl hS338 rfl hA340 rfl rfl rfl Try.sizeOf31 (by rw [flatMap_len (f := encT_target_Sheet) (sz := 4) (fun _ => rfl)]; have hz := chk_lt h213; simp only [List.getElem_toArray, List.getElem_cons_succ, List.getElem_cons_zero, List.length_cons, List.length_nil]; omega) rfl (setN_at (sz := 4) (fo := 2) (fun _ => rfl) _ _ _ _ hg341 (by first | omega | (simp only [List.getElem_toArray, List.getElem_cons_succ, List.getElem_cons_zero]; omega)) (Nat.le_of_ble_eq_true rfl) rfl) rfl ?_
          intro W342 hS343
          have hS344 : St ⟨w, [], φ⟩ φ332 [.blk b48 134 [.slice A327 x190.bytes.length c328, .int .i64 x190.next, .int .u32 x190.state], .blk b159 33 [.int .i64 x149.From, .int .i64 x149.To, .int .i64 x149.Loops.Lo, .int .i64 x149.Loops.Hi], .blk b10 134 [.slice A31 x18.bytes.length c32, .int .i64 x18.next, .int .u32 x18.state], .row A68 c69 33 4 (List.flatMap encT_target_Sheet (List.set l108 k113 (⟨(gd l108 k113).From, (gd l108 k113).To, x203⟩ : T_target_Sheet))), .row A110 c111 33 4 (List.flatMap encT_target_Sheet l109)] W342 := hS343
          refine OKS.e ?_
          cases hm224
          have h351 := h329.le le336
          exact thenQ_n ⟨rfl, ⟨φ332, A327, c328, f137, f138, f139, f140, (Eq.trans (b := (.slice A68 l108.length c69 : Value)) (c := (.slice A68 ((List.set l108 k113 (⟨(gd l108 k113).From, (gd l108 k113).To, x203⟩ : T_target_Sheet)).length) c69 : Value)) f141 (by simp only [List.length_set])), f142, rfl, f143, f144, fi133, ((le313.trans le325).trans le336), hS344, h351, (by first | rfl | assumption | (simp only [List.length_set]; first | rfl | assumption))⟩⟩
      refine OKS.both ?_ ?_
      · have hS354 : St ⟨w, [], φ⟩ φ134 [.blk b48 134 [.slice A104 l103.length c105, .int .i64 x106, .int .u32 x107], .blk b159 33 [.int .i64 x149.From, .int .i64 x149.To, .int .i64 x149.Loops.Lo, .int .i64 x149.Loops.Hi], .blk b10 134 [.slice A31 x18.bytes.length c32, .int .i64 x18.next, .int .u32 x18.state], .row A68 c69 33 4 (List.flatMap encT_target_Sheet l108), .row A110 c111 33 4 (List.flatMap encT_target_Sheet l109)] W226 := hS225.pick [1, 0, 2, 3, 4] _ (by decide) rfl
        refine OKS.callH 1 rfl rfl rfl rfl (Enters.mk rfl rfl Try.call18 (mapcons rfl (mapcons rfl mapnil)) rfl) hS354 (fun hs => w_klisterkit_Deck_Draw (⟨l103, x106, x107⟩ : T_klisterkit_Deck) b48 A104 c105 3 W226 φ134 hs h145 h176) (.inl rfl) ?_
        rintro φ355 L356 v357 W358 le359 hS360 ⟨A361, c362, rfl, rfl, h363⟩
        have hS364 : St ⟨w, [], φ⟩ φ355 [.blk b48 134 [.slice A361 x175.bytes.length c362, .int .i64 x175.next, .int .u32 x175.state], .blk b159 33 [.int .i64 x149.From, .int .i64 x149.To, .int .i64 x149.Loops.Lo, .int .i64 x149.Loops.Hi], .blk b10 134 [.slice A31 x18.bytes.length c32, .int .i64 x18.next, .int .u32 x18.state], .row A68 c69 33 4 (List.flatMap encT_target_Sheet l108), .row A110 c111 33 4 (List.flatMap encT_target_Sheet l109)] W358 := hS360
        refine OKS.both ?_ ?_
        · refine OKS.mx rfl rfl rfl rfl (hS364.ldB (j := 1) rfl rfl rfl Try.isAgg3 (v := .int .i64 x149.Loops.Lo) rfl) rfl ?_
          refine OKS.r rfl rfl rfl rfl (fun _ => Runs.subw rfl rfl rfl) ?_
          refine OKS.r rfl rfl rfl rfl (fun _ => Runs.max rfl rfl rfl) ?_
          refine OKS.both ?_ ?_
          · refine OKS.mx rfl rfl rfl rfl (hS364.ldB (j := 1) rfl rfl rfl Try.isAgg3 (v := .int .i64 x149.Loops.Hi) rfl) rfl ?_
            refine OKS.callH 1 rfl rfl rfl rfl (Enters.mk rfl rfl Try.call18 (mapcons rfl (mapcons rfl mapnil)) rfl) hS364 (fun hs => w_klisterkit_Deck_Draw x175 b48 A361 c362 3 W358 φ355 hs h363 h191) (.inl rfl) ?_
            rintro φ367 L368 v369 W370 le371 hS372 ⟨A373, c374, rfl, rfl, h375⟩
            have hS376 : St ⟨w, [], φ⟩ φ367 [.blk b48 134 [.slice A373 x190.bytes.length c374, .int .i64 x190.next, .int .u32 x190.state], .blk b159 33 [.int .i64 x149.From, .int .i64 x149.To, .int .i64 x149.Loops.Lo, .int .i64 x149.Loops.Hi], .blk b10 134 [.slice A31 x18.bytes.length c32, .int .i64 x18.next, .int .u32 x18.state], .row A68 c69 33 4 (List.flatMap encT_target_Sheet l108), .row A110 c111 33 4 (List.flatMap encT_target_Sheet l109)] W370 := hS372
            refine OKS.r rfl rfl rfl rfl (fun _ => Runs.addw rfl rfl rfl) ?_
            refine OKS.r rfl rfl rfl rfl (fun _ => Runs.min rfl rfl rfl) ?_
            refine OKS.callH 0 rfl rfl rfl rfl (Enters.mk rfl rfl Try.call17 (mapcons rfl (mapcons rfl mapnil)) rfl) hS376 (fun hs => w_klisterlaw03_span (max 0 (w64 (x149.Loops.Lo - x174))) (min 72 (w64 (x149.Loops.Hi + x189))) W370 φ367 hs h204) (.inr rfl) ?_
            rintro φ378 L379 v380 W381 le382 hS383 ⟨rfl, rfl⟩
            have hS384 : St ⟨w, [], φ⟩ φ378 [.blk b48 134 [.slice A373 x190.bytes.length c374, .int .i64 x190.next, .int .u32 x190.state], .blk b159 33 [.int .i64 x149.From, .int .i64 x149.To, .int .i64 x149.Loops.Lo, .int .i64 x149.Loops.Hi], .blk b10 134 [.slice A31 x18.bytes.length c32, .int .i64 x18.next, .int .u32 x18.state], .row A68 c69 33 4 (List.flatMap encT_target_Sheet l108), .row A110 c111 33 4 (List.flatMap encT_target_Sheet l109)] W381 := hS383
            obtain ⟨b385, hA386⟩ := hS384.rowSome (j := 3) rfl (by rw [flatMap_len (f := encT_target_Sheet) (sz := 4) (fun _ => rfl) l108]; have hz := chk_lt h213; omega)
            refine OKS.r rfl rfl rfl rfl (fun _ => Runs.iaN rfl rfl hA386 rfl Try.runUnderlying24 Try.sizeOf33 (chk_lt h213)) ?_
            refine OKS.r rfl rfl rfl rfl (fun _ => Runs.fa rfl rfl Try.runUnderlying33 rfl Try.sizeOf31) ?_
            have hg387 := gd_at (xs := l108) (chk_lt h213)
            refine OKS.stR (j := 3) (vs := [.int .i64 x203.Lo, .int .i64 x203.Hi]) (cs' := List.flatMap encT_target_Sheet (List.set l108 k113 (⟨(gd l108 k113).From, (gd l108 k113).To, x203⟩ : T_target_Sheet))) rfl rfl rfl rfl hS384 rfl hA386 rfl rfl rfl Try.sizeOf31 (by rw [flatMap_len (f := encT_target_Sheet) (sz := 4) (fun _ => rfl)]; have hz := chk_lt h213; simp only [List.getElem_toArray, List.getElem_cons_succ, List.getElem_cons_zero, List.length_cons, List.length_nil]; omega) rfl (setN_at (sz := 4) (fo := 2) (fun _ => rfl) _ _ _ _ hg387 (by first | omega | (simp only [List.getElem_toArray, List.getElem_cons_succ, List.getElem_cons_zero]; omega)) (Nat.le_of_ble_eq_true rfl) rfl) rfl ?_
            intro W388 hS389
            have hS390 : St ⟨w, [], φ⟩ φ378 [.blk b48 134 [.slice A373 x190.bytes.length c374, .int .i64 x190.next, .int .u32 x190.state], .blk b159 33 [.int .i64 x149.From, .int .i64 x149.To, .int .i64 x149.Loops.Lo, .int .i64 x149.Loops.Hi], .blk b10 134 [.slice A31 x18.bytes.length c32, .int .i64 x18.next, .int .u32 x18.state], .row A68 c69 33 4 (List.flatMap encT_target_Sheet (List.set l108 k113 (⟨(gd l108 k113).From, (gd l108 k113).To, x203⟩ : T_target_Sheet))), .row A110 c111 33 4 (List.flatMap encT_target_Sheet l109)] W388 := hS389
            refine OKS.e ?_
            cases hm224
            have h397 := h375.le le382
            exact thenQ_n ⟨rfl, ⟨φ378, A373, c374, f137, f138, f139, f140, (Eq.trans (b := (.slice A68 l108.length c69 : Value)) (c := (.slice A68 ((List.set l108 k113 (⟨(gd l108 k113).From, (gd l108 k113).To, x203⟩ : T_target_Sheet)).length) c69 : Value)) f141 (by simp only [List.length_set])), f142, rfl, f143, f144, fi133, ((le359.trans le371).trans le382), hS390, h397, (by first | rfl | assumption | (simp only [List.length_set]; first | rfl | assumption))⟩⟩
          · refine OKS.callH 1 rfl rfl rfl rfl (Enters.mk rfl rfl Try.call18 (mapcons rfl (mapcons rfl mapnil)) rfl) hS364 (fun hs => w_klisterkit_Deck_Draw x175 b48 A361 c362 3 W358 φ355 hs h363 h191) (.inl rfl) ?_
            rintro φ400 L401 v402 W403 le404 hS405 ⟨A406, c407, rfl, rfl, h408⟩
            have hS409 : St ⟨w, [], φ⟩ φ400 [.blk b48 134 [.slice A406 x190.bytes.length c407, .int .i64 x190.next, .int .u32 x190.state], .blk b159 33 [.int .i64 x149.From, .int .i64 x149.To, .int .i64 x149.Loops.Lo, .int .i64 x149.Loops.Hi], .blk b10 134 [.slice A31 x18.bytes.length c32, .int .i64 x18.next, .int .u32 x18.state], .row A68 c69 33 4 (List.flatMap encT_target_Sheet l108), .row A110 c111 33 4 (List.flatMap encT_target_Sheet l109)] W403 := hS405
            refine OKS.mx rfl rfl rfl rfl (hS409.ldB (j := 1) rfl rfl rfl Try.isAgg3 (v := .int .i64 x149.Loops.Hi) rfl) rfl ?_
            refine OKS.r rfl rfl rfl rfl (fun _ => Runs.addw rfl rfl rfl) ?_
            refine OKS.r rfl rfl rfl rfl (fun _ => Runs.min rfl rfl rfl) ?_
            refine OKS.callH 0 rfl rfl rfl rfl (Enters.mk rfl rfl Try.call17 (mapcons rfl (mapcons rfl mapnil)) rfl) hS409 (fun hs => w_klisterlaw03_span (max 0 (w64 (x149.Loops.Lo - x174))) (min 72 (w64 (x149.Loops.Hi + x189))) W403 φ400 hs h204) (.inr rfl) ?_
            rintro φ411 L412 v413 W414 le415 hS416 ⟨rfl, rfl⟩
            have hS417 : St ⟨w, [], φ⟩ φ411 [.blk b48 134 [.slice A406 x190.bytes.length c407, .int .i64 x190.next, .int .u32 x190.state], .blk b159 33 [.int .i64 x149.From, .int .i64 x149.To, .int .i64 x149.Loops.Lo, .int .i64 x149.Loops.Hi], .blk b10 134 [.slice A31 x18.bytes.length c32, .int .i64 x18.next, .int .u32 x18.state], .row A68 c69 33 4 (List.flatMap encT_target_Sheet l108), .row A110 c111 33 4 (List.flatMap encT_target_Sheet l109)] W414 := hS416
            obtain ⟨b418, hA419⟩ := hS417.rowSome (j := 3) rfl (by rw [flatMap_len (f := encT_target_Sheet) (sz := 4) (fun _ => rfl) l108]; have hz := chk_lt h213; omega)
            refine OKS.r rfl rfl rfl rfl (fun _ => Runs.iaN rfl rfl hA419 rfl Try.runUnderlying24 Try.sizeOf33 (chk_lt h213)) ?_
            refine OKS.r rfl rfl rfl rfl (fun _ => Runs.fa rfl rfl Try.runUnderlying33 rfl Try.sizeOf31) ?_
            have hg420 := gd_at (xs := l108) (chk_lt h213)
            refine OKS.stR (j := 3) (vs := [.int .i64 x203.Lo, .int .i64 x203.Hi]) (cs' := List.flatMap encT_target_Sheet (List.set l108 k113 (⟨(gd l108 k113).From, (gd l108 k113).To, x203⟩ : T_target_Sheet))) rfl rfl rfl rfl hS417 rfl hA419 rfl rfl rfl Try.sizeOf31 (by rw [flatMap_len (f := encT_target_Sheet) (sz := 4) (fun _ => rfl)]; have hz := chk_lt h213; simp only [List.getElem_toArray, List.getElem_cons_succ, List.getElem_cons_zero, List.length_cons, List.length_nil]; omega) rfl (setN_at (sz := 4) (fo := 2) (fun _ => rfl) _ _ _ _ hg420 (by first | omega | (simp only [List.getElem_toArray, List.getElem_cons_succ, List.getElem_cons_zero]; omega)) (Nat.le_of_ble_eq_true rfl) rfl) rfl ?_
            intro W421 hS422
            have hS423 : St ⟨w, [], φ⟩ φ411 [.blk b48 134 [.slice A406 x190.bytes.length c407, .int .i64 x190.next, .int .u32 x190.state], .blk b159 33 [.int .i64 x149.From, .int .i64 x149.To, .int .i64 x149.Loops.Lo, .int .i64 x149.Loops.Hi], .blk b10 134 [.slice A31 x18.bytes.length c32, .int .i64 x18.next, .int .u32 x18.state], .row A68 c69 33 4 (List.flatMap encT_target_Sheet (List.set l108 k113 (⟨(gd l108 k113).From, (gd l108 k113).To, x203⟩ : T_target_Sheet))), .row A110 c111 33 4 (List.flatMap encT_target_Sheet l109)] W421 := hS422
            refine OKS.e ?_
            cases hm224
            have h430 := h408.le le415
            exact thenQ_n ⟨rfl, ⟨φ411, A406, c407, f137, f138, f139, f140, (Eq.trans (b := (.slice A68 l108.length c69 : Value)) (c := (.slice A68 ((List.set l108 k113 (⟨(gd l108 k113).From, (gd l108 k113).To, x203⟩ : T_target_Sheet)).length) c69 : Value)) f141 (by simp only [List.length_set])), f142, rfl, f143, f144, fi133, ((le359.trans le404).trans le415), hS423, h430, (by first | rfl | assumption | (simp only [List.length_set]; first | rfl | assumption))⟩⟩
        refine OKS.both ?_ ?_
        · refine OKS.mx rfl rfl rfl rfl (hS364.ldB (j := 1) rfl rfl rfl Try.isAgg3 (v := .int .i64 x149.Loops.Hi) rfl) rfl ?_
          refine OKS.both ?_ ?_
          · refine OKS.mx rfl rfl rfl rfl (hS364.ldB (j := 1) rfl rfl rfl Try.isAgg3 (v := .int .i64 x149.Loops.Lo) rfl) rfl ?_
            refine OKS.r rfl rfl rfl rfl (fun _ => Runs.subw rfl rfl rfl) ?_
            refine OKS.r rfl rfl rfl rfl (fun _ => Runs.max rfl rfl rfl) ?_
            refine OKS.callH 1 rfl rfl rfl rfl (Enters.mk rfl rfl Try.call18 (mapcons rfl (mapcons rfl mapnil)) rfl) hS364 (fun hs => w_klisterkit_Deck_Draw x175 b48 A361 c362 3 W358 φ355 hs h363 h191) (.inl rfl) ?_
            rintro φ433 L434 v435 W436 le437 hS438 ⟨A439, c440, rfl, rfl, h441⟩
            have hS442 : St ⟨w, [], φ⟩ φ433 [.blk b48 134 [.slice A439 x190.bytes.length c440, .int .i64 x190.next, .int .u32 x190.state], .blk b159 33 [.int .i64 x149.From, .int .i64 x149.To, .int .i64 x149.Loops.Lo, .int .i64 x149.Loops.Hi], .blk b10 134 [.slice A31 x18.bytes.length c32, .int .i64 x18.next, .int .u32 x18.state], .row A68 c69 33 4 (List.flatMap encT_target_Sheet l108), .row A110 c111 33 4 (List.flatMap encT_target_Sheet l109)] W436 := hS438
            refine OKS.r rfl rfl rfl rfl (fun _ => Runs.addw rfl rfl rfl) ?_
            refine OKS.r rfl rfl rfl rfl (fun _ => Runs.min rfl rfl rfl) ?_
            refine OKS.callH 0 rfl rfl rfl rfl (Enters.mk rfl rfl Try.call17 (mapcons rfl (mapcons rfl mapnil)) rfl) hS442 (fun hs => w_klisterlaw03_span (max 0 (w64 (x149.Loops.Lo - x174))) (min 72 (w64 (x149.Loops.Hi + x189))) W436 φ433 hs h204) (.inr rfl) ?_
            rintro φ444 L445 v446 W447 le448 hS449 ⟨rfl, rfl⟩
            have hS450 : St ⟨w, [], φ⟩ φ444 [.blk b48 134 [.slice A439 x190.bytes.length c440, .int .i64 x190.next, .int .u32 x190.state], .blk b159 33 [.int .i64 x149.From, .int .i64 x149.To, .int .i64 x149.Loops.Lo, .int .i64 x149.Loops.Hi], .blk b10 134 [.slice A31 x18.bytes.length c32, .int .i64 x18.next, .int .u32 x18.state], .row A68 c69 33 4 (List.flatMap encT_target_Sheet l108), .row A110 c111 33 4 (List.flatMap encT_target_Sheet l109)] W447 := hS449
            obtain ⟨b451, hA452⟩ := hS450.rowSome (j := 3) rfl (by rw [flatMap_len (f := encT_target_Sheet) (sz := 4) (fun _ => rfl) l108]; have hz := chk_lt h213; omega)
            refine OKS.r rfl rfl rfl rfl (fun _ => Runs.iaN rfl rfl hA452 rfl Try.runUnderlying24 Try.sizeOf33 (chk_lt h213)) ?_
            refine OKS.r rfl rfl rfl rfl (fun _ => Runs.fa rfl rfl Try.runUnderlying33 rfl Try.sizeOf31) ?_
            have hg453 := gd_at (xs := l108) (chk_lt h213)
            refine OKS.stR (j := 3) (vs := [.int .i64 x203.Lo, .int .i64 x203.Hi]) (cs' := List.flatMap encT_target_Sheet (List.set l108 k113 (⟨(gd l108 k113).From, (gd l108 k113).To, x203⟩ : T_target_Sheet))) rfl rfl rfl rfl hS450 rfl hA452 rfl rfl rfl Try.sizeOf31 (by rw [flatMap_len (f := encT_target_Sheet) (sz := 4) (fun _ => rfl)]; have hz := chk_lt h213; simp only [List.getElem_toArray, List.getElem_cons_succ, List.getElem_cons_zero, List.length_cons, List.length_nil]; omega) rfl (setN_at (sz := 4) (fo := 2) (fun _ => rfl) _ _ _ _ hg453 (by first | omega | (simp only [List.getElem_toArray, List.getElem_cons_succ, List.getElem_cons_zero]; omega)) (Nat.le_of_ble_eq_true rfl) rfl) rfl ?_
            intro W454 hS455
            have hS456 : St ⟨w, [], φ⟩ φ444 [.blk b48 134 [.slice A439 x190.bytes.length c440, .int .i64 x190.next, .int .u32 x190.state], .blk b159 33 [.int .i64 x149.From, .int .i64 x149.To, .int .i64 x149.Loops.Lo, .int .i64 x149.Loops.Hi], .blk b10 134 [.slice A31 x18.bytes.length c32, .int .i64 x18.next, .int .u32 x18.state], .row A68 c69 33 4 (List.flatMap encT_target_Sheet (List.set l108 k113 (⟨(gd l108 k113).From, (gd l108 k113).To, x203⟩ : T_target_Sheet))), .row A110 c111 33 4 (List.flatMap encT_target_Sheet l109)] W454 := hS455
            refine OKS.e ?_
            cases hm224
            have h463 := h441.le le448
            exact thenQ_n ⟨rfl, ⟨φ444, A439, c440, f137, f138, f139, f140, (Eq.trans (b := (.slice A68 l108.length c69 : Value)) (c := (.slice A68 ((List.set l108 k113 (⟨(gd l108 k113).From, (gd l108 k113).To, x203⟩ : T_target_Sheet)).length) c69 : Value)) f141 (by simp only [List.length_set])), f142, rfl, f143, f144, fi133, ((le359.trans le437).trans le448), hS456, h463, (by first | rfl | assumption | (simp only [List.length_set]; first | rfl | assumption))⟩⟩
          · refine OKS.callH 1 rfl rfl rfl rfl (Enters.mk rfl rfl Try.call18 (mapcons rfl (mapcons rfl mapnil)) rfl) hS364 (fun hs => w_klisterkit_Deck_Draw x175 b48 A361 c362 3 W358 φ355 hs h363 h191) (.inl rfl) ?_
            rintro φ466 L467 v468 W469 le470 hS471 ⟨A472, c473, rfl, rfl, h474⟩
            have hS475 : St ⟨w, [], φ⟩ φ466 [.blk b48 134 [.slice A472 x190.bytes.length c473, .int .i64 x190.next, .int .u32 x190.state], .blk b159 33 [.int .i64 x149.From, .int .i64 x149.To, .int .i64 x149.Loops.Lo, .int .i64 x149.Loops.Hi], .blk b10 134 [.slice A31 x18.bytes.length c32, .int .i64 x18.next, .int .u32 x18.state], .row A68 c69 33 4 (List.flatMap encT_target_Sheet l108), .row A110 c111 33 4 (List.flatMap encT_target_Sheet l109)] W469 := hS471
            refine OKS.r rfl rfl rfl rfl (fun _ => Runs.addw rfl rfl rfl) ?_
            refine OKS.r rfl rfl rfl rfl (fun _ => Runs.min rfl rfl rfl) ?_
            refine OKS.mx rfl rfl rfl rfl (hS475.ldB (j := 1) rfl rfl rfl Try.isAgg3 (v := .int .i64 x149.Loops.Lo) rfl) rfl ?_
            refine OKS.r rfl rfl rfl rfl (fun _ => Runs.subw rfl rfl rfl) ?_
            refine OKS.r rfl rfl rfl rfl (fun _ => Runs.max rfl rfl rfl) ?_
            refine OKS.callH 0 rfl rfl rfl rfl (Enters.mk rfl rfl Try.call17 (mapcons rfl (mapcons rfl mapnil)) rfl) hS475 (fun hs => w_klisterlaw03_span (max 0 (w64 (x149.Loops.Lo - x174))) (min 72 (w64 (x149.Loops.Hi + x189))) W469 φ466 hs h204) (.inr rfl) ?_
            rintro φ477 L478 v479 W480 le481 hS482 ⟨rfl, rfl⟩
            have hS483 : St ⟨w, [], φ⟩ φ477 [.blk b48 134 [.slice A472 x190.bytes.length c473, .int .i64 x190.next, .int .u32 x190.state], .blk b159 33 [.int .i64 x149.From, .int .i64 x149.To, .int .i64 x149.Loops.Lo, .int .i64 x149.Loops.Hi], .blk b10 134 [.slice A31 x18.bytes.length c32, .int .i64 x18.next, .int .u32 x18.state], .row A68 c69 33 4 (List.flatMap encT_target_Sheet l108), .row A110 c111 33 4 (List.flatMap encT_target_Sheet l109)] W480 := hS482
            obtain ⟨b484, hA485⟩ := hS483.rowSome (j := 3) rfl (by rw [flatMap_len (f := encT_target_Sheet) (sz := 4) (fun _ => rfl) l108]; have hz := chk_lt h213; omega)
            refine OKS.r rfl rfl rfl rfl (fun _ => Runs.iaN rfl rfl hA485 rfl Try.runUnderlying24 Try.sizeOf33 (chk_lt h213)) ?_
            refine OKS.r rfl rfl rfl rfl (fun _ => Runs.fa rfl rfl Try.runUnderlying33 rfl Try.sizeOf31) ?_
            have hg486 := gd_at (xs := l108) (chk_lt h213)
            refine OKS.stR (j := 3) (vs := [.int .i64 x203.Lo, .int .i64 x203.Hi]) (cs' := List.flatMap encT_target_Sheet (List.set l108 k113 (⟨(gd l108 k113).From, (gd l108 k113).To, x203⟩ : T_target_Sheet))) rfl rfl rfl rfl hS483 rfl hA485 rfl rfl rfl Try.sizeOf31 (by rw [flatMap_len (f := encT_target_Sheet) (sz := 4) (fun _ => rfl)]; have hz := chk_lt h213; simp only [List.getElem_toArray, List.getElem_cons_succ, List.getElem_cons_zero, List.length_cons, List.length_nil]; omega) rfl (setN_at (sz := 4) (fo := 2) (fun _ => rfl) _ _ _ _ hg486 (by first | omega | (simp only [List.getElem_toArray, List.getElem_cons_succ, List.getElem_cons_zero]; omega)) (Nat.le_of_ble_eq_true rfl) rfl) rfl ?_
            intro W487 hS488
            have hS489 : St ⟨w, [], φ⟩ φ477 [.blk b48 134 [.slice A472 x190.bytes.length c473, .int .i64 x190.next, .int .u32 x190.state], .blk b159 33 [.int .i64 x149.From, .int .i64 x149.To, .int .i64 x149.Loops.Lo, .int .i64 x149.Loops.Hi], .blk b10 134 [.slice A31 x18.bytes.length c32, .int .i64 x18.next, .int .u32 x18.state], .row A68 c69 33 4 (List.flatMap encT_target_Sheet (List.set l108 k113 (⟨(gd l108 k113).From, (gd l108 k113).To, x203⟩ : T_target_Sheet))), .row A110 c111 33 4 (List.flatMap encT_target_Sheet l109)] W487 := hS488
            refine OKS.e ?_
            cases hm224
            have h496 := h474.le le481
            exact thenQ_n ⟨rfl, ⟨φ477, A472, c473, f137, f138, f139, f140, (Eq.trans (b := (.slice A68 l108.length c69 : Value)) (c := (.slice A68 ((List.set l108 k113 (⟨(gd l108 k113).From, (gd l108 k113).To, x203⟩ : T_target_Sheet)).length) c69 : Value)) f141 (by simp only [List.length_set])), f142, rfl, f143, f144, fi133, ((le359.trans le470).trans le481), hS489, h496, (by first | rfl | assumption | (simp only [List.length_set]; first | rfl | assumption))⟩⟩
        · refine OKS.callH 1 rfl rfl rfl rfl (Enters.mk rfl rfl Try.call18 (mapcons rfl (mapcons rfl mapnil)) rfl) hS364 (fun hs => w_klisterkit_Deck_Draw x175 b48 A361 c362 3 W358 φ355 hs h363 h191) (.inl rfl) ?_
          rintro φ499 L500 v501 W502 le503 hS504 ⟨A505, c506, rfl, rfl, h507⟩
          have hS508 : St ⟨w, [], φ⟩ φ499 [.blk b48 134 [.slice A505 x190.bytes.length c506, .int .i64 x190.next, .int .u32 x190.state], .blk b159 33 [.int .i64 x149.From, .int .i64 x149.To, .int .i64 x149.Loops.Lo, .int .i64 x149.Loops.Hi], .blk b10 134 [.slice A31 x18.bytes.length c32, .int .i64 x18.next, .int .u32 x18.state], .row A68 c69 33 4 (List.flatMap encT_target_Sheet l108), .row A110 c111 33 4 (List.flatMap encT_target_Sheet l109)] W502 := hS504
          refine OKS.both ?_ ?_
          · refine OKS.mx rfl rfl rfl rfl (hS508.ldB (j := 1) rfl rfl rfl Try.isAgg3 (v := .int .i64 x149.Loops.Lo) rfl) rfl ?_
            refine OKS.r rfl rfl rfl rfl (fun _ => Runs.subw rfl rfl rfl) ?_
            refine OKS.r rfl rfl rfl rfl (fun _ => Runs.max rfl rfl rfl) ?_
            refine OKS.mx rfl rfl rfl rfl (hS508.ldB (j := 1) rfl rfl rfl Try.isAgg3 (v := .int .i64 x149.Loops.Hi) rfl) rfl ?_
            refine OKS.r rfl rfl rfl rfl (fun _ => Runs.addw rfl rfl rfl) ?_
            refine OKS.r rfl rfl rfl rfl (fun _ => Runs.min rfl rfl rfl) ?_
            refine OKS.callH 0 rfl rfl rfl rfl (Enters.mk rfl rfl Try.call17 (mapcons rfl (mapcons rfl mapnil)) rfl) hS508 (fun hs => w_klisterlaw03_span (max 0 (w64 (x149.Loops.Lo - x174))) (min 72 (w64 (x149.Loops.Hi + x189))) W502 φ499 hs h204) (.inr rfl) ?_
            rintro φ510 L511 v512 W513 le514 hS515 ⟨rfl, rfl⟩
            have hS516 : St ⟨w, [], φ⟩ φ510 [.blk b48 134 [.slice A505 x190.bytes.length c506, .int .i64 x190.next, .int .u32 x190.state], .blk b159 33 [.int .i64 x149.From, .int .i64 x149.To, .int .i64 x149.Loops.Lo, .int .i64 x149.Loops.Hi], .blk b10 134 [.slice A31 x18.bytes.length c32, .int .i64 x18.next, .int .u32 x18.state], .row A68 c69 33 4 (List.flatMap encT_target_Sheet l108), .row A110 c111 33 4 (List.flatMap encT_target_Sheet l109)] W513 := hS515
            obtain ⟨b517, hA518⟩ := hS516.rowSome (j := 3) rfl (by rw [flatMap_len (f := encT_target_Sheet) (sz := 4) (fun _ => rfl) l108]; have hz := chk_lt h213; omega)
            refine OKS.r rfl rfl rfl rfl (fun _ => Runs.iaN rfl rfl hA518 rfl Try.runUnderlying24 Try.sizeOf33 (chk_lt h213)) ?_
            refine OKS.r rfl rfl rfl rfl (fun _ => Runs.fa rfl rfl Try.runUnderlying33 rfl Try.sizeOf31) ?_
            have hg519 := gd_at (xs := l108) (chk_lt h213)
            refine OKS.stR (j := 3) (vs := [.int .i64 x203.Lo, .int .i64 x203.Hi]) (cs' := List.flatMap encT_target_Sheet (List.set l108 k113 (⟨(gd l108 k113).From, (gd l108 k113).To, x203⟩ : T_target_Sheet))) rfl rfl rfl rfl hS516 rfl hA518 rfl rfl rfl Try.sizeOf31 (by rw [flatMap_len (f := encT_target_Sheet) (sz := 4) (fun _ => rfl)]; have hz := chk_lt h213; simp only [List.getElem_toArray, List.getElem_cons_succ, List.getElem_cons_zero, List.length_cons, List.length_nil]; omega) rfl (setN_at (sz := 4) (fo := 2) (fun _ => rfl) _ _ _ _ hg519 (by first | omega | (simp only [List.getElem_toArray, List.getElem_cons_succ, List.getElem_cons_zero]; omega)) (Nat.le_of_ble_eq_true rfl) rfl) rfl ?_
            intro W520 hS521
            have hS522 : St ⟨w, [], φ⟩ φ510 [.blk b48 134 [.slice A505 x190.bytes.length c506, .int .i64 x190.next, .int .u32 x190.state], .blk b159 33 [.int .i64 x149.From, .int .i64 x149.To, .int .i64 x149.Loops.Lo, .int .i64 x149.Loops.Hi], .blk b10 134 [.slice A31 x18.bytes.length c32, .int .i64 x18.next, .int .u32 x18.state], .row A68 c69 33 4 (List.flatMap encT_target_Sheet (List.set l108 k113 (⟨(gd l108 k113).From, (gd l108 k113).To, x203⟩ : T_target_Sheet))), .row A110 c111 33 4 (List.flatMap encT_target_Sheet l109)] W520 := hS521
            refine OKS.e ?_
            cases hm224
            have h529 := h507.le le514
            exact thenQ_n ⟨rfl, ⟨φ510, A505, c506, f137, f138, f139, f140, (Eq.trans (b := (.slice A68 l108.length c69 : Value)) (c := (.slice A68 ((List.set l108 k113 (⟨(gd l108 k113).From, (gd l108 k113).To, x203⟩ : T_target_Sheet)).length) c69 : Value)) f141 (by simp only [List.length_set])), f142, rfl, f143, f144, fi133, ((le359.trans le503).trans le514), hS522, h529, (by first | rfl | assumption | (simp only [List.length_set]; first | rfl | assumption))⟩⟩
          · refine OKS.mx rfl rfl rfl rfl (hS508.ldB (j := 1) rfl rfl rfl Try.isAgg3 (v := .int .i64 x149.Loops.Hi) rfl) rfl ?_
            refine OKS.r rfl rfl rfl rfl (fun _ => Runs.addw rfl rfl rfl) ?_
            refine OKS.r rfl rfl rfl rfl (fun _ => Runs.min rfl rfl rfl) ?_
            refine OKS.mx rfl rfl rfl rfl (hS508.ldB (j := 1) rfl rfl rfl Try.isAgg3 (v := .int .i64 x149.Loops.Lo) rfl) rfl ?_
            refine OKS.r rfl rfl rfl rfl (fun _ => Runs.subw rfl rfl rfl) ?_
            refine OKS.r rfl rfl rfl rfl (fun _ => Runs.max rfl rfl rfl) ?_
            refine OKS.callH 0 rfl rfl rfl rfl (Enters.mk rfl rfl Try.call17 (mapcons rfl (mapcons rfl mapnil)) rfl) hS508 (fun hs => w_klisterlaw03_span (max 0 (w64 (x149.Loops.Lo - x174))) (min 72 (w64 (x149.Loops.Hi + x189))) W502 φ499 hs h204) (.inr rfl) ?_
            rintro φ531 L532 v533 W534 le535 hS536 ⟨rfl, rfl⟩
            have hS537 : St ⟨w, [], φ⟩ φ531 [.blk b48 134 [.slice A505 x190.bytes.length c506, .int .i64 x190.next, .int .u32 x190.state], .blk b159 33 [.int .i64 x149.From, .int .i64 x149.To, .int .i64 x149.Loops.Lo, .int .i64 x149.Loops.Hi], .blk b10 134 [.slice A31 x18.bytes.length c32, .int .i64 x18.next, .int .u32 x18.state], .row A68 c69 33 4 (List.flatMap encT_target_Sheet l108), .row A110 c111 33 4 (List.flatMap encT_target_Sheet l109)] W534 := hS536
            obtain ⟨b538, hA539⟩ := hS537.rowSome (j := 3) rfl (by rw [flatMap_len (f := encT_target_Sheet) (sz := 4) (fun _ => rfl) l108]; have hz := chk_lt h213; omega)
            refine OKS.r rfl rfl rfl rfl (fun _ => Runs.iaN rfl rfl hA539 rfl Try.runUnderlying24 Try.sizeOf33 (chk_lt h213)) ?_
            refine OKS.r rfl rfl rfl rfl (fun _ => Runs.fa rfl rfl Try.runUnderlying33 rfl Try.sizeOf31) ?_
            have hg540 := gd_at (xs := l108) (chk_lt h213)
            refine OKS.stR (j := 3) (vs := [.int .i64 x203.Lo, .int .i64 x203.Hi]) (cs' := List.flatMap encT_target_Sheet (List.set l108 k113 (⟨(gd l108 k113).From, (gd l108 k113).To, x203⟩ : T_target_Sheet))) rfl rfl rfl rfl hS537 rfl hA539 rfl rfl rfl Try.sizeOf31 (by rw [flatMap_len (f := encT_target_Sheet) (sz := 4) (fun _ => rfl)]; have hz := chk_lt h213; simp only [List.getElem_toArray, List.getElem_cons_succ, List.getElem_cons_zero, List.length_cons, List.length_nil]; omega) rfl (setN_at (sz := 4) (fo := 2) (fun _ => rfl) _ _ _ _ hg540 (by first | omega | (simp only [List.getElem_toArray, List.getElem_cons_succ, List.getElem_cons_zero]; omega)) (Nat.le_of_ble_eq_true rfl) rfl) rfl ?_
            intro W541 hS542
            have hS543 : St ⟨w, [], φ⟩ φ531 [.blk b48 134 [.slice A505 x190.bytes.length c506, .int .i64 x190.next, .int .u32 x190.state], .blk b159 33 [.int .i64 x149.From, .int .i64 x149.To, .int .i64 x149.Loops.Lo, .int .i64 x149.Loops.Hi], .blk b10 134 [.slice A31 x18.bytes.length c32, .int .i64 x18.next, .int .u32 x18.state], .row A68 c69 33 4 (List.flatMap encT_target_Sheet (List.set l108 k113 (⟨(gd l108 k113).From, (gd l108 k113).To, x203⟩ : T_target_Sheet))), .row A110 c111 33 4 (List.flatMap encT_target_Sheet l109)] W541 := hS542
            refine OKS.e ?_
            cases hm224
            have h550 := h507.le le535
            exact thenQ_n ⟨rfl, ⟨φ531, A505, c506, f137, f138, f139, f140, (Eq.trans (b := (.slice A68 l108.length c69 : Value)) (c := (.slice A68 ((List.set l108 k113 (⟨(gd l108 k113).From, (gd l108 k113).To, x203⟩ : T_target_Sheet)).length) c69 : Value)) f141 (by simp only [List.length_set])), f142, rfl, f143, f144, fi133, ((le359.trans le503).trans le535), hS543, h550, (by first | rfl | assumption | (simp only [List.length_set]; first | rfl | assumption))⟩⟩
      · refine OKS.mx rfl rfl rfl rfl (hS225.ldB (j := 0) rfl rfl rfl Try.isAgg3 (v := .int .i64 x149.Loops.Hi) rfl) rfl ?_
        refine OKS.both ?_ ?_
        · refine OKS.mx rfl rfl rfl rfl (hS225.ldB (j := 0) rfl rfl rfl Try.isAgg3 (v := .int .i64 x149.Loops.Lo) rfl) rfl ?_
          have hS553 : St ⟨w, [], φ⟩ φ134 [.blk b48 134 [.slice A104 l103.length c105, .int .i64 x106, .int .u32 x107], .blk b159 33 [.int .i64 x149.From, .int .i64 x149.To, .int .i64 x149.Loops.Lo, .int .i64 x149.Loops.Hi], .blk b10 134 [.slice A31 x18.bytes.length c32, .int .i64 x18.next, .int .u32 x18.state], .row A68 c69 33 4 (List.flatMap encT_target_Sheet l108), .row A110 c111 33 4 (List.flatMap encT_target_Sheet l109)] W226 := hS225.pick [1, 0, 2, 3, 4] _ (by decide) rfl
          refine OKS.callH 1 rfl rfl rfl rfl (Enters.mk rfl rfl Try.call18 (mapcons rfl (mapcons rfl mapnil)) rfl) hS553 (fun hs => w_klisterkit_Deck_Draw (⟨l103, x106, x107⟩ : T_klisterkit_Deck) b48 A104 c105 3 W226 φ134 hs h145 h176) (.inl rfl) ?_
          rintro φ554 L555 v556 W557 le558 hS559 ⟨A560, c561, rfl, rfl, h562⟩
          have hS563 : St ⟨w, [], φ⟩ φ554 [.blk b48 134 [.slice A560 x175.bytes.length c561, .int .i64 x175.next, .int .u32 x175.state], .blk b159 33 [.int .i64 x149.From, .int .i64 x149.To, .int .i64 x149.Loops.Lo, .int .i64 x149.Loops.Hi], .blk b10 134 [.slice A31 x18.bytes.length c32, .int .i64 x18.next, .int .u32 x18.state], .row A68 c69 33 4 (List.flatMap encT_target_Sheet l108), .row A110 c111 33 4 (List.flatMap encT_target_Sheet l109)] W557 := hS559
          refine OKS.r rfl rfl rfl rfl (fun _ => Runs.subw rfl rfl rfl) ?_
          refine OKS.r rfl rfl rfl rfl (fun _ => Runs.max rfl rfl rfl) ?_
          refine OKS.callH 1 rfl rfl rfl rfl (Enters.mk rfl rfl Try.call18 (mapcons rfl (mapcons rfl mapnil)) rfl) hS563 (fun hs => w_klisterkit_Deck_Draw x175 b48 A560 c561 3 W557 φ554 hs h562 h191) (.inl rfl) ?_
          rintro φ566 L567 v568 W569 le570 hS571 ⟨A572, c573, rfl, rfl, h574⟩
          have hS575 : St ⟨w, [], φ⟩ φ566 [.blk b48 134 [.slice A572 x190.bytes.length c573, .int .i64 x190.next, .int .u32 x190.state], .blk b159 33 [.int .i64 x149.From, .int .i64 x149.To, .int .i64 x149.Loops.Lo, .int .i64 x149.Loops.Hi], .blk b10 134 [.slice A31 x18.bytes.length c32, .int .i64 x18.next, .int .u32 x18.state], .row A68 c69 33 4 (List.flatMap encT_target_Sheet l108), .row A110 c111 33 4 (List.flatMap encT_target_Sheet l109)] W569 := hS571
          refine OKS.r rfl rfl rfl rfl (fun _ => Runs.addw rfl rfl rfl) ?_
          refine OKS.r rfl rfl rfl rfl (fun _ => Runs.min rfl rfl rfl) ?_
          refine OKS.callH 0 rfl rfl rfl rfl (Enters.mk rfl rfl Try.call17 (mapcons rfl (mapcons rfl mapnil)) rfl) hS575 (fun hs => w_klisterlaw03_span (max 0 (w64 (x149.Loops.Lo - x174))) (min 72 (w64 (x149.Loops.Hi + x189))) W569 φ566 hs h204) (.inr rfl) ?_
          rintro φ577 L578 v579 W580 le581 hS582 ⟨rfl, rfl⟩
          have hS583 : St ⟨w, [], φ⟩ φ577 [.blk b48 134 [.slice A572 x190.bytes.length c573, .int .i64 x190.next, .int .u32 x190.state], .blk b159 33 [.int .i64 x149.From, .int .i64 x149.To, .int .i64 x149.Loops.Lo, .int .i64 x149.Loops.Hi], .blk b10 134 [.slice A31 x18.bytes.length c32, .int .i64 x18.next, .int .u32 x18.state], .row A68 c69 33 4 (List.flatMap encT_target_Sheet l108), .row A110 c111 33 4 (List.flatMap encT_target_Sheet l109)] W580 := hS582
          obtain ⟨b584, hA585⟩ := hS583.rowSome (j := 3) rfl (by rw [flatMap_len (f := encT_target_Sheet) (sz := 4) (fun _ => rfl) l108]; have hz := chk_lt h213; omega)
          refine OKS.r rfl rfl rfl rfl (fun _ => Runs.iaN rfl rfl hA585 rfl Try.runUnderlying24 Try.sizeOf33 (chk_lt h213)) ?_
          refine OKS.r rfl rfl rfl rfl (fun _ => Runs.fa rfl rfl Try.runUnderlying33 rfl Try.sizeOf31) ?_
          have hg586 := gd_at (xs := l108) (chk_lt h213)
          refine OKS.stR (j := 3) (vs := [.int .i64 x203.Lo, .int .i64 x203.Hi]) (cs' := List.flatMap encT_target_Sheet (List.set l108 k113 (⟨(gd l108 k113).From, (gd l108 k113).To, x203⟩ : T_target_Sheet))) rfl rfl rfl rfl hS583 rfl hA585 rfl rfl rfl Try.sizeOf31 (by rw [flatMap_len (f := encT_target_Sheet) (sz := 4) (fun _ => rfl)]; have hz := chk_lt h213; simp only [List.getElem_toArray, List.getElem_cons_succ, List.getElem_cons_zero, List.length_cons, List.length_nil]; omega) rfl (setN_at (sz := 4) (fo := 2) (fun _ => rfl) _ _ _ _ hg586 (by first | omega | (simp only [List.getElem_toArray, List.getElem_cons_succ, List.getElem_cons_zero]; omega)) (Nat.le_of_ble_eq_true rfl) rfl) rfl ?_
          intro W587 hS588
          have hS589 : St ⟨w, [], φ⟩ φ577 [.blk b48 134 [.slice A572 x190.bytes.length c573, .int .i64 x190.next, .int .u32 x190.state], .blk b159 33 [.int .i64 x149.From, .int .i64 x149.To, .int .i64 x149.Loops.Lo, .int .i64 x149.Loops.Hi], .blk b10 134 [.slice A31 x18.bytes.length c32, .int .i64 x18.next, .int .u32 x18.state], .row A68 c69 33 4 (List.flatMap encT_target_Sheet (List.set l108 k113 (⟨(gd l108 k113).From, (gd l108 k113).To, x203⟩ : T_target_Sheet))), .row A110 c111 33 4 (List.flatMap encT_target_Sheet l109)] W587 := hS588
          refine OKS.e ?_
          cases hm224
          have h596 := h574.le le581
          exact thenQ_n ⟨rfl, ⟨φ577, A572, c573, f137, f138, f139, f140, (Eq.trans (b := (.slice A68 l108.length c69 : Value)) (c := (.slice A68 ((List.set l108 k113 (⟨(gd l108 k113).From, (gd l108 k113).To, x203⟩ : T_target_Sheet)).length) c69 : Value)) f141 (by simp only [List.length_set])), f142, rfl, f143, f144, fi133, ((le558.trans le570).trans le581), hS589, h596, (by first | rfl | assumption | (simp only [List.length_set]; first | rfl | assumption))⟩⟩
        · have hS599 : St ⟨w, [], φ⟩ φ134 [.blk b48 134 [.slice A104 l103.length c105, .int .i64 x106, .int .u32 x107], .blk b159 33 [.int .i64 x149.From, .int .i64 x149.To, .int .i64 x149.Loops.Lo, .int .i64 x149.Loops.Hi], .blk b10 134 [.slice A31 x18.bytes.length c32, .int .i64 x18.next, .int .u32 x18.state], .row A68 c69 33 4 (List.flatMap encT_target_Sheet l108), .row A110 c111 33 4 (List.flatMap encT_target_Sheet l109)] W226 := hS225.pick [1, 0, 2, 3, 4] _ (by decide) rfl
          refine OKS.callH 1 rfl rfl rfl rfl (Enters.mk rfl rfl Try.call18 (mapcons rfl (mapcons rfl mapnil)) rfl) hS599 (fun hs => w_klisterkit_Deck_Draw (⟨l103, x106, x107⟩ : T_klisterkit_Deck) b48 A104 c105 3 W226 φ134 hs h145 h176) (.inl rfl) ?_
          rintro φ600 L601 v602 W603 le604 hS605 ⟨A606, c607, rfl, rfl, h608⟩
          have hS609 : St ⟨w, [], φ⟩ φ600 [.blk b48 134 [.slice A606 x175.bytes.length c607, .int .i64 x175.next, .int .u32 x175.state], .blk b159 33 [.int .i64 x149.From, .int .i64 x149.To, .int .i64 x149.Loops.Lo, .int .i64 x149.Loops.Hi], .blk b10 134 [.slice A31 x18.bytes.length c32, .int .i64 x18.next, .int .u32 x18.state], .row A68 c69 33 4 (List.flatMap encT_target_Sheet l108), .row A110 c111 33 4 (List.flatMap encT_target_Sheet l109)] W603 := hS605
          refine OKS.both ?_ ?_
          · refine OKS.mx rfl rfl rfl rfl (hS609.ldB (j := 1) rfl rfl rfl Try.isAgg3 (v := .int .i64 x149.Loops.Lo) rfl) rfl ?_
            refine OKS.r rfl rfl rfl rfl (fun _ => Runs.subw rfl rfl rfl) ?_
            refine OKS.r rfl rfl rfl rfl (fun _ => Runs.max rfl rfl rfl) ?_
            refine OKS.callH 1 rfl rfl rfl rfl (Enters.mk rfl rfl Try.call18 (mapcons rfl (mapcons rfl mapnil)) rfl) hS609 (fun hs => w_klisterkit_Deck_Draw x175 b48 A606 c607 3 W603 φ600 hs h608 h191) (.inl rfl) ?_
            rintro φ612 L613 v614 W615 le616 hS617 ⟨A618, c619, rfl, rfl, h620⟩
            have hS621 : St ⟨w, [], φ⟩ φ612 [.blk b48 134 [.slice A618 x190.bytes.length c619, .int .i64 x190.next, .int .u32 x190.state], .blk b159 33 [.int .i64 x149.From, .int .i64 x149.To, .int .i64 x149.Loops.Lo, .int .i64 x149.Loops.Hi], .blk b10 134 [.slice A31 x18.bytes.length c32, .int .i64 x18.next, .int .u32 x18.state], .row A68 c69 33 4 (List.flatMap encT_target_Sheet l108), .row A110 c111 33 4 (List.flatMap encT_target_Sheet l109)] W615 := hS617
            refine OKS.r rfl rfl rfl rfl (fun _ => Runs.addw rfl rfl rfl) ?_
            refine OKS.r rfl rfl rfl rfl (fun _ => Runs.min rfl rfl rfl) ?_
            refine OKS.callH 0 rfl rfl rfl rfl (Enters.mk rfl rfl Try.call17 (mapcons rfl (mapcons rfl mapnil)) rfl) hS621 (fun hs => w_klisterlaw03_span (max 0 (w64 (x149.Loops.Lo - x174))) (min 72 (w64 (x149.Loops.Hi + x189))) W615 φ612 hs h204) (.inr rfl) ?_
            rintro φ623 L624 v625 W626 le627 hS628 ⟨rfl, rfl⟩
            have hS629 : St ⟨w, [], φ⟩ φ623 [.blk b48 134 [.slice A618 x190.bytes.length c619, .int .i64 x190.next, .int .u32 x190.state], .blk b159 33 [.int .i64 x149.From, .int .i64 x149.To, .int .i64 x149.Loops.Lo, .int .i64 x149.Loops.Hi], .blk b10 134 [.slice A31 x18.bytes.length c32, .int .i64 x18.next, .int .u32 x18.state], .row A68 c69 33 4 (List.flatMap encT_target_Sheet l108), .row A110 c111 33 4 (List.flatMap encT_target_Sheet l109)] W626 := hS628
            obtain ⟨b630, hA631⟩ := hS629.rowSome (j := 3) rfl (by rw [flatMap_len (f := encT_target_Sheet) (sz := 4) (fun _ => rfl) l108]; have hz := chk_lt h213; omega)
            refine OKS.r rfl rfl rfl rfl (fun _ => Runs.iaN rfl rfl hA631 rfl Try.runUnderlying24 Try.sizeOf33 (chk_lt h213)) ?_
            refine OKS.r rfl rfl rfl rfl (fun _ => Runs.fa rfl rfl Try.runUnderlying33 rfl Try.sizeOf31) ?_
            have hg632 := gd_at (xs := l108) (chk_lt h213)
            refine OKS.stR (j := 3) (vs := [.int .i64 x203.Lo, .int .i64 x203.Hi]) (cs' := List.flatMap encT_target_Sheet (List.set l108 k113 (⟨(gd l108 k113).From, (gd l108 k113).To, x203⟩ : T_target_Sheet))) rfl rfl rfl rfl hS629 rfl hA631 rfl rfl rfl Try.sizeOf31 (by rw [flatMap_len (f := encT_target_Sheet) (sz := 4) (fun _ => rfl)]; have hz := chk_lt h213; simp only [List.getElem_toArray, List.getElem_cons_succ, List.getElem_cons_zero, List.length_cons, List.length_nil]; omega) rfl (setN_at (sz := 4) (fo := 2) (fun _ => rfl) _ _ _ _ hg632 (by first | omega | (simp only [List.getElem_toArray, List.getElem_cons_succ, List.getElem_cons_zero]; omega)) (Nat.le_of_ble_eq_true rfl) rfl) rfl ?_
            intro W633 hS634
            have hS635 : St ⟨w, [], φ⟩ φ623 [.blk b48 134 [.slice A618 x190.bytes.length c619, .int .i64 x190.next, .int .u32 x190.state], .blk b159 33 [.int .i64 x149.From, .int .i64 x149.To, .int .i64 x149.Loops.Lo, .int .i64 x149.Loops.Hi], .blk b10 134 [.slice A31 x18.bytes.length c32, .int .i64 x18.next, .int .u32 x18.state], .row A68 c69 33 4 (List.flatMap encT_target_Sheet (List.set l108 k113 (⟨(gd l108 k113).From, (gd l108 k113).To, x203⟩ : T_target_Sheet))), .row A110 c111 33 4 (List.flatMap encT_target_Sheet l109)] W633 := hS634
            refine OKS.e ?_
            cases hm224
            have h642 := h620.le le627
            exact thenQ_n ⟨rfl, ⟨φ623, A618, c619, f137, f138, f139, f140, (Eq.trans (b := (.slice A68 l108.length c69 : Value)) (c := (.slice A68 ((List.set l108 k113 (⟨(gd l108 k113).From, (gd l108 k113).To, x203⟩ : T_target_Sheet)).length) c69 : Value)) f141 (by simp only [List.length_set])), f142, rfl, f143, f144, fi133, ((le604.trans le616).trans le627), hS635, h642, (by first | rfl | assumption | (simp only [List.length_set]; first | rfl | assumption))⟩⟩
          · refine OKS.callH 1 rfl rfl rfl rfl (Enters.mk rfl rfl Try.call18 (mapcons rfl (mapcons rfl mapnil)) rfl) hS609 (fun hs => w_klisterkit_Deck_Draw x175 b48 A606 c607 3 W603 φ600 hs h608 h191) (.inl rfl) ?_
            rintro φ645 L646 v647 W648 le649 hS650 ⟨A651, c652, rfl, rfl, h653⟩
            have hS654 : St ⟨w, [], φ⟩ φ645 [.blk b48 134 [.slice A651 x190.bytes.length c652, .int .i64 x190.next, .int .u32 x190.state], .blk b159 33 [.int .i64 x149.From, .int .i64 x149.To, .int .i64 x149.Loops.Lo, .int .i64 x149.Loops.Hi], .blk b10 134 [.slice A31 x18.bytes.length c32, .int .i64 x18.next, .int .u32 x18.state], .row A68 c69 33 4 (List.flatMap encT_target_Sheet l108), .row A110 c111 33 4 (List.flatMap encT_target_Sheet l109)] W648 := hS650
            refine OKS.r rfl rfl rfl rfl (fun _ => Runs.addw rfl rfl rfl) ?_
            refine OKS.r rfl rfl rfl rfl (fun _ => Runs.min rfl rfl rfl) ?_
            refine OKS.mx rfl rfl rfl rfl (hS654.ldB (j := 1) rfl rfl rfl Try.isAgg3 (v := .int .i64 x149.Loops.Lo) rfl) rfl ?_
            refine OKS.r rfl rfl rfl rfl (fun _ => Runs.subw rfl rfl rfl) ?_
            refine OKS.r rfl rfl rfl rfl (fun _ => Runs.max rfl rfl rfl) ?_
            refine OKS.callH 0 rfl rfl rfl rfl (Enters.mk rfl rfl Try.call17 (mapcons rfl (mapcons rfl mapnil)) rfl) hS654 (fun hs => w_klisterlaw03_span (max 0 (w64 (x149.Loops.Lo - x174))) (min 72 (w64 (x149.Loops.Hi + x189))) W648 φ645 hs h204) (.inr rfl) ?_
            rintro φ656 L657 v658 W659 le660 hS661 ⟨rfl, rfl⟩
            have hS662 : St ⟨w, [], φ⟩ φ656 [.blk b48 134 [.slice A651 x190.bytes.length c652, .int .i64 x190.next, .int .u32 x190.state], .blk b159 33 [.int .i64 x149.From, .int .i64 x149.To, .int .i64 x149.Loops.Lo, .int .i64 x149.Loops.Hi], .blk b10 134 [.slice A31 x18.bytes.length c32, .int .i64 x18.next, .int .u32 x18.state], .row A68 c69 33 4 (List.flatMap encT_target_Sheet l108), .row A110 c111 33 4 (List.flatMap encT_target_Sheet l109)] W659 := hS661
            obtain ⟨b663, hA664⟩ := hS662.rowSome (j := 3) rfl (by rw [flatMap_len (f := encT_target_Sheet) (sz := 4) (fun _ => rfl) l108]; have hz := chk_lt h213; omega)
            refine OKS.r rfl rfl rfl rfl (fun _ => Runs.iaN rfl rfl hA664 rfl Try.runUnderlying24 Try.sizeOf33 (chk_lt h213)) ?_
            refine OKS.r rfl rfl rfl rfl (fun _ => Runs.fa rfl rfl Try.runUnderlying33 rfl Try.sizeOf31) ?_
            have hg665 := gd_at (xs := l108) (chk_lt h213)
            refine OKS.stR (j := 3) (vs := [.int .i64 x203.Lo, .int .i64 x203.Hi]) (cs' := List.flatMap encT_target_Sheet (List.set l108 k113 (⟨(gd l108 k113).From, (gd l108 k113).To, x203⟩ : T_target_Sheet))) rfl rfl rfl rfl hS662 rfl hA664 rfl rfl rfl Try.sizeOf31 (by rw [flatMap_len (f := encT_target_Sheet) (sz := 4) (fun _ => rfl)]; have hz := chk_lt h213; simp only [List.getElem_toArray, List.getElem_cons_succ, List.getElem_cons_zero, List.length_cons, List.length_nil]; omega) rfl (setN_at (sz := 4) (fo := 2) (fun _ => rfl) _ _ _ _ hg665 (by first | omega | (simp only [List.getElem_toArray, List.getElem_cons_succ, List.getElem_cons_zero]; omega)) (Nat.le_of_ble_eq_true rfl) rfl) rfl ?_
            intro W666 hS667
            have hS668 : St ⟨w, [], φ⟩ φ656 [.blk b48 134 [.slice A651 x190.bytes.length c652, .int .i64 x190.next, .int .u32 x190.state], .blk b159 33 [.int .i64 x149.From, .int .i64 x149.To, .int .i64 x149.Loops.Lo, .int .i64 x149.Loops.Hi], .blk b10 134 [.slice A31 x18.bytes.length c32, .int .i64 x18.next, .int .u32 x18.state], .row A68 c69 33 4 (List.flatMap encT_target_Sheet (List.set l108 k113 (⟨(gd l108 k113).From, (gd l108 k113).To, x203⟩ : T_target_Sheet))), .row A110 c111 33 4 (List.flatMap encT_target_Sheet l109)] W666 := hS667
            refine OKS.e ?_
            cases hm224
            have h675 := h653.le le660
            exact thenQ_n ⟨rfl, ⟨φ656, A651, c652, f137, f138, f139, f140, (Eq.trans (b := (.slice A68 l108.length c69 : Value)) (c := (.slice A68 ((List.set l108 k113 (⟨(gd l108 k113).From, (gd l108 k113).To, x203⟩ : T_target_Sheet)).length) c69 : Value)) f141 (by simp only [List.length_set])), f142, rfl, f143, f144, fi133, ((le604.trans le649).trans le660), hS668, h675, (by first | rfl | assumption | (simp only [List.length_set]; first | rfl | assumption))⟩⟩
    · rintro σ676 W677 ⟨φ678, A166, c167, f681, f682, f683, f684, f685, f686, f687, f688, f689, f690, le679, hS680, h691, h692⟩
      refine CK.reg (ks := []) (.fl 0 (.fl 1 (.fl 2 (.fl 3 (.fl 4 (.fl 5 (.fl 6 (.fl 7 (.fl 8 (.fl 9 (.fl 10 (.fl 11 (.fl 12 (.fl 13 (.fx 14 (.fx 15 (.fl 16 (.nil)) .stop) .stop))))))))))))))) rfl ?_
      refine OKS.r rfl rfl rfl rfl (fun _ => Runs.mv rfl f686) ?_
      refine OKS.r rfl rfl rfl rfl (fun _ => Runs.mv rfl f683) ?_
      refine OKS.r rfl rfl rfl rfl (fun _ => Runs.subw rfl rfl rfl) ?_
      refine OKS.r rfl rfl rfl rfl (fun _ => Runs.fa rfl f687 Try.runUnderlying33 rfl Try.sizeOf3) ?_
      refine OKS.m rfl rfl rfl rfl (hS680.ldB (j := 1) rfl rfl rfl Try.isAgg3 (v := .int .i64 x149.To) rfl) rfl ?_
      refine OKS.r rfl rfl rfl rfl (fun _ => Runs.subw rfl rfl rfl) ?_
      refine OKS.r rfl rfl rfl rfl (fun _ => Runs.mv rfl f683) ?_
      refine OKS.r rfl rfl rfl rfl (fun _ => Runs.subw rfl rfl rfl) ?_
      refine OKS.r rfl rfl rfl rfl (fun _ => Runs.fa rfl f687 Try.runUnderlying33 rfl Try.sizeOf3) ?_
      refine OKS.m rfl rfl rfl rfl (hS680.ldB (j := 1) rfl rfl rfl Try.isAgg3 (v := .int .i64 x149.From) rfl) rfl ?_
      refine OKS.r rfl rfl rfl rfl (fun _ => Runs.subw rfl rfl rfl) ?_
      refine OKS.r rfl rfl rfl rfl (fun _ => Runs.fa rfl f687 Try.runUnderlying33 rfl Try.sizeOf31) ?_
      refine OKS.m rfl rfl rfl rfl (hS680.ldBA (j := 1) rfl rfl rfl Try.isAgg31 Try.sizeOf31 (vs := [.int .i64 x149.Loops.Lo, .int .i64 x149.Loops.Hi]) rfl rfl) rfl ?_
      refine OKS.r rfl rfl rfl rfl (fun _ => Runs.build (pv := [(0, .int .i64 (w64 ((w64 ((↑x16.length : Int) - 1)) - x149.To))), (1, .int .i64 (w64 ((w64 ((↑x16.length : Int) - 1)) - x149.From))), (2, .agg #[.int .i64 x149.Loops.Lo, .int .i64 x149.Loops.Hi])]) (z := [.int .i64 0, .int .i64 0, .int .i64 0, .int .i64 0]) (cs := [.int .i64 (w64 ((w64 ((↑x16.length : Int) - 1)) - x149.To)), .int .i64 (w64 ((w64 ((↑x16.length : Int) - 1)) - x149.From)), .int .i64 x149.Loops.Lo, .int .i64 x149.Loops.Hi]) rfl (mapcons2 rfl (mapcons2 rfl (mapcons2 rfl mapnil2))) Try.zeroValue33 places33 rfl rfl) ?_
      refine OKS.buildSlice (pv := [(0, .agg #[.int .i64 (w64 ((w64 ((↑x16.length : Int) - 1)) - x149.To)), .int .i64 (w64 ((w64 ((↑x16.length : Int) - 1)) - x149.From)), .int .i64 x149.Loops.Lo, .int .i64 x149.Loops.Hi])]) (zs := [.int .i64 0, .int .i64 0, .int .i64 0, .int .i64 0]) (cs := [.int .i64 (w64 ((w64 ((↑x16.length : Int) - 1)) - x149.To)), .int .i64 (w64 ((w64 ((↑x16.length : Int) - 1)) - x149.From)), .int .i64 x149.Loops.Lo, .int .i64 x149.Loops.Hi]) rfl rfl rfl rfl rfl (mapcons2 rfl mapnil2) Try.runUnderlying24 Try.sizeOf33 Try.zeroValue33 rfl rfl rfl rfl rfl hS680 ?_
      intro W693 b694 hS695
      have hS697 : St ⟨w, [], φ⟩ φ678 [.row (some ⟨b694, 0, none⟩) 1 33 4 (List.flatMap encT_target_Sheet [(⟨w64 ((w64 ((↑x16.length : Int) - 1)) - x149.To), w64 ((w64 ((↑x16.length : Int) - 1)) - x149.From), x149.Loops⟩ : T_target_Sheet)]), .blk b48 134 [.slice A166 l165.length c167, .int .i64 x168, .int .u32 x169], .blk b159 33 [.int .i64 x149.From, .int .i64 x149.To, .int .i64 x149.Loops.Lo, .int .i64 x149.Loops.Hi], .blk b10 134 [.slice A31 x18.bytes.length c32, .int .i64 x18.next, .int .u32 x18.state], .row A68 c69 33 4 (List.flatMap encT_target_Sheet l170), .row A110 c111 33 4 (List.flatMap encT_target_Sheet l109)] W693 := hS695
      obtain ⟨x698, h699, hm700⟩ := bnd hm173
      refine OKS.append (j := 5) (enc := encT_target_Sheet) (xs := l109) (ys := [(⟨w64 ((w64 ((↑x16.length : Int) - 1)) - x149.To), w64 ((w64 ((↑x16.length : Int) - 1)) - x149.From), x149.Loops⟩ : T_target_Sheet)]) (zs := x698) rfl rfl rfl rfl rfl Try.underlying24 info33 rfl rfl rfl rfl rfl rfl hS697 rfl rfl rfl (hS697.srcR (j := 0) rfl (by decide) (flatMap_len (f := encT_target_Sheet) (sz := 4) (fun _ => rfl) [(⟨w64 ((w64 ((↑x16.length : Int) - 1)) - x149.To), w64 ((w64 ((↑x16.length : Int) - 1)) - x149.From), x149.Loops⟩ : T_target_Sheet)])) (fun _ => rfl) (fun _ => rfl) h699 rfl ?_
      intro A701 c702 W703 hS704
      have hS705 : St ⟨w, [], φ⟩ φ678 [.row (some ⟨b694, 0, none⟩) 1 33 4 (List.flatMap encT_target_Sheet [(⟨w64 ((w64 ((↑x16.length : Int) - 1)) - x149.To), w64 ((w64 ((↑x16.length : Int) - 1)) - x149.From), x149.Loops⟩ : T_target_Sheet)]), .blk b48 134 [.slice A166 l165.length c167, .int .i64 x168, .int .u32 x169], .blk b159 33 [.int .i64 x149.From, .int .i64 x149.To, .int .i64 x149.Loops.Lo, .int .i64 x149.Loops.Hi], .blk b10 134 [.slice A31 x18.bytes.length c32, .int .i64 x18.next, .int .u32 x18.state], .row A68 c69 33 4 (List.flatMap encT_target_Sheet l170), .row A701 c702 33 4 (List.flatMap encT_target_Sheet x698)] W703 := hS704
      refine OKS.r rfl rfl rfl rfl (fun _ => Runs.as rfl rfl) ?_
      refine OKS.e ?_
      refine blockQ_n ?_
      refine thenQ_n ?_
      refine CK.reg (ks := []) (.fl 0 (.fl 1 (.nil))) rfl ?_
      refine OKS.r rfl rfl rfl rfl (fun _ => Runs.to (Runs.addw rfl f690 rfl) (congrArg (Value.int .i64) hi148.out)) ?_
      refine OKS.r rfl rfl rfl rfl (fun _ => Runs.mv rfl rfl) ?_
      refine OKS.e ?_
      cases hm700
      exact thenQ_n ⟨rfl, ⟨φ678, A166, c167, A701, c702, rfl, f681, f682, f683, f684, f685, rfl, f688, f689, (le135.trans le679), (hS705.pick [1, 3, 4, 5] _ (by decide) rfl), h691, (by first | rfl | assumption | (simp only [List.length_set]; first | rfl | assumption))⟩⟩
  · rintro σ715 W716 ⟨φ732, A728, c729, A730, c731, fi718, f735, f736, f737, f738, f739, f740, f741, f742, le733, hS734, h743, h744⟩
    have c745 : Hid (¬ ((↑(((↑x17.length : Int) : Int) - 0).toNat : Int) < (↑x17.length : Int))) := Hid.mk (lp_end0)
    refine CK.seq ?_
    refine CK.reg (ks := []) (.fl 0 (.nil)) rfl ?_
    refine OKS.r rfl rfl rfl rfl (fun _ => Runs.lss rfl fi718 f742) ?_
    refine OKS.e ?_
    refine thenQ_n ?_
    refine CK.seq ?_
    refine CK.condF (decF c745.out) ?_
    refine CK.exit ?_
    refine thenQ_e ?_
    refine thenQ_e ?_
    refine blockQ_h ?_
    refine thenQ_n ?_
    refine CK.seq ?_
    refine CK.reg (ks := []) (.fl 0 (.fl 1 (.nil))) rfl ?_
    refine OKS.r rfl rfl rfl rfl (fun _ => Runs.as rfl rfl) ?_
    refine OKS.r rfl rfl rfl rfl (fun _ => Runs.as rfl rfl) ?_
    refine OKS.e ?_
    refine thenQ_n ?_
    refine CK.seq ?_
    refine CK.seq ?_
    refine CK.reg (ks := []) (.fl 0 (.fl 1 (.fl 2 (.nil)))) rfl ?_
    refine OKS.r rfl rfl rfl rfl (fun _ => Runs.mv rfl f735) ?_
    refine OKS.r rfl rfl rfl rfl (fun _ => Runs.len rfl rfl Try.runUnderlying23) ?_
    refine OKS.r rfl rfl rfl rfl (fun _ => Runs.mv rfl rfl) ?_
    refine OKS.e ?_
    refine thenQ_n ?_
    refine CK.block ?_
    obtain ⟨⟨y788, y789, y790, y791⟩, hf785, hm784⟩ := bnd hm114
    try dsimp only at hm784
    obtain ⟨hle786, hf787⟩ := forR'_le hf785
    replace hle786 := Hid.mk hle786
    refine CK.forN' (fun k783 (l774, x777, x778, l779) σ_ w_ => ∃ (φ_ : PHeap) (A775 : Option Addr) (c776 : Nat) (A780 : Option Addr) (c781 : Nat), σ_ 85 = .int .i64 (↑k783 : Int) ∧ σ_ 6 = .slice A29 x17.length c30 ∧ σ_ 7 = .int .i64 (↑x16.length : Int) ∧ σ_ 8 = .pointer (some ⟨b48, 0, none⟩) ∧ σ_ 9 = .slice A68 y121.length c69 ∧ σ_ 10 = .slice A730 y122.length c731 ∧ σ_ 13 = .slice A780 l779.length c781 ∧ σ_ 84 = .int .i64 (↑x16.length : Int) ∧ PHeap.Le φ732 φ_ ∧ St ⟨w, [], φ⟩ φ_ [.blk b48 134 [.slice A775 l774.length c776, .int .i64 x777, .int .u32 x778], .blk b10 134 [.slice A31 x18.bytes.length c32, .int .i64 x18.next, .int .u32 x18.state], .row A68 c69 33 4 (List.flatMap encT_target_Sheet y121), .row A730 c731 33 4 (List.flatMap encT_target_Sheet y122), .row A780 c781 3 1 (List.flatMap encI l779)] w_ ∧ Sl φ_ 1 A775 c776 l774.length (List.flatMap encB8 l774)) hf787 ?_ ?_ ?_
    · have hS792 := hS734.nilrow 3 1
      exact ⟨φ732, A728, c729, none, 0, rfl, f736, f737, f738, f739, f740, rfl, rfl, (PHeap.Le.refl _), (hS792.pick [1, 2, 3, 4, 0] _ (by decide) rfl), h743⟩
    · rintro k783 ⟨l774, x777, x778, l779⟩ xx796 σ794 W795 hk799 ⟨φ801, A775, c776, A780, c781, fi800, f804, f805, f806, f807, f808, f809, f810, le802, hS803, h811⟩ hx797
      try dsimp only at hx797
      have c812 : Hid ((↑k783 : Int) < (↑x16.length : Int)) := Hid.mk (lp_lt0 hk799)
      replace hk799 := Hid.mk hk799
      have hi813 : Hid (w64 ((↑k783 : Int) + 1) = (↑(k783 + 1) : Int)) := Hid.mk (by have h1 := hle786.out; have h2 := c812.out; rw [w64_in] <;> omega)
      refine CK.seq ?_
      refine CK.reg (ks := []) (.fl 0 (.nil)) rfl ?_
      refine OKS.r rfl rfl rfl rfl (fun _ => Runs.lss rfl fi800 f810) ?_
      refine OKS.e ?_
      refine thenQ_n ?_
      refine CK.seq ?_
      refine CK.condT (decT c812.out) ?_
      refine CK.skip ?_
      refine thenQ_n ?_
      refine CK.seq ?_
      refine CK.block ?_
      refine CK.reg (ks := []) (.fl 0 (.fl 1 (.fx 2 (.fx 3 (.fx 4 (.fl 5 (.nil)) .stop) .stop) .stop))) rfl ?_
      refine OKS.r rfl rfl rfl rfl (fun _ => Runs.mv rfl f809) ?_
      refine OKS.r rfl rfl rfl rfl (fun _ => Runs.mv rfl f806) ?_
      obtain ⟨⟨x814, x815⟩, h816, hm817⟩ := bnd hx797
      try dsimp only at hm817
      refine OKS.callH 1 rfl rfl rfl rfl (Enters.mk rfl rfl Try.call18 (mapcons rfl (mapcons rfl mapnil)) rfl) hS803 (fun hs => w_klisterkit_Deck_Draw (⟨l774, x777, x778⟩ : T_klisterkit_Deck) b48 A775 c776 6 W795 φ801 hs h811 h816) (.inl rfl) ?_
      rintro φ818 L819 v820 W821 le822 hS823 ⟨A824, c825, rfl, rfl, h826⟩
      have hS827 : St ⟨w, [], φ⟩ φ818 [.blk b48 134 [.slice A824 x815.bytes.length c825, .int .i64 x815.next, .int .u32 x815.state], .blk b10 134 [.slice A31 x18.bytes.length c32, .int .i64 x18.next, .int .u32 x18.state], .row A68 c69 33 4 (List.flatMap encT_target_Sheet y121), .row A730 c731 33 4 (List.flatMap encT_target_Sheet y122), .row A780 c781 3 1 (List.flatMap encI l779)] W821 := hS823
      refine OKS.buildSlice (pv := [(0, .int .i64 x814)]) (zs := [.int .i64 0]) (cs := [.int .i64 x814]) rfl rfl rfl rfl rfl (mapcons2 rfl mapnil2) Try.runUnderlying23 Try.sizeOf3 Try.zeroValue3 rfl rfl rfl rfl rfl hS827 ?_
      intro W828 b829 hS830
      have hS832 : St ⟨w, [], φ⟩ φ818 [.row (some ⟨b829, 0, none⟩) 1 3 1 (List.flatMap encI [x814]), .blk b48 134 [.slice A824 x815.bytes.length c825, .int .i64 x815.next, .int .u32 x815.state], .blk b10 134 [.slice A31 x18.bytes.length c32, .int .i64 x18.next, .int .u32 x18.state], .row A68 c69 33 4 (List.flatMap encT_target_Sheet y121), .row A730 c731 33 4 (List.flatMap encT_target_Sheet y122), .row A780 c781 3 1 (List.flatMap encI l779)] W828 := hS830
      obtain ⟨x833, h834, hm835⟩ := bnd hm817
      refine OKS.append (j := 5) (enc := encI) (xs := l779) (ys := [x814]) (zs := x833) rfl rfl rfl rfl rfl Try.underlying23 info3 rfl rfl rfl rfl rfl rfl hS832 rfl rfl rfl (hS832.srcR (j := 0) rfl (by decide) (flatMap_len (f := encI) (sz := 1) (fun _ => rfl) [x814])) (fun _ => rfl) (fun _ => rfl) h834 rfl ?_
      intro A836 c837 W838 hS839
      have hS840 : St ⟨w, [], φ⟩ φ818 [.row (some ⟨b829, 0, none⟩) 1 3 1 (List.flatMap encI [x814]), .blk b48 134 [.slice A824 x815.bytes.length c825, .int .i64 x815.next, .int .u32 x815.state], .blk b10 134 [.slice A31 x18.bytes.length c32, .int .i64 x18.next, .int .u32 x18.state], .row A68 c69 33 4 (List.flatMap encT_target_Sheet y121), .row A730 c731 33 4 (List.flatMap encT_target_Sheet y122), .row A836 c837 3 1 (List.flatMap encI x833)] W838 := hS839
      refine OKS.r rfl rfl rfl rfl (fun _ => Runs.as rfl rfl) ?_
      refine OKS.e ?_
      refine blockQ_n ?_
      refine thenQ_n ?_
      refine CK.reg (ks := []) (.fl 0 (.fl 1 (.nil))) rfl ?_
      refine OKS.r rfl rfl rfl rfl (fun _ => Runs.to (Runs.addw rfl fi800 rfl) (congrArg (Value.int .i64) hi813.out)) ?_
      refine OKS.r rfl rfl rfl rfl (fun _ => Runs.mv rfl rfl) ?_
      refine OKS.e ?_
      cases hm835
      exact thenQ_n ⟨rfl, ⟨φ818, A824, c825, A836, c837, rfl, f804, f805, f806, f807, f808, rfl, f810, (le802.trans le822), (hS840.pick [1, 2, 3, 4, 5] _ (by decide) rfl), h826⟩⟩
    · rintro σ849 W850 ⟨φ865, A861, c862, A863, c864, fi852, f868, f869, f870, f871, f872, f873, f874, le866, hS867, h875⟩
      have c876 : Hid (¬ ((↑(((↑x16.length : Int) : Int) - 0).toNat : Int) < (↑x16.length : Int))) := Hid.mk (lp_end0)
      refine CK.seq ?_
      refine CK.reg (ks := []) (.fl 0 (.nil)) rfl ?_
      refine OKS.r rfl rfl rfl rfl (fun _ => Runs.lss rfl fi852 f874) ?_
      refine OKS.e ?_
      refine thenQ_n ?_
      refine CK.seq ?_
      refine CK.condF (decF c876.out) ?_
      refine CK.exit ?_
      refine thenQ_e ?_
      refine thenQ_e ?_
      refine blockQ_h ?_
      refine thenQ_n ?_
      refine CK.seq ?_
      refine CK.reg (ks := []) (.fl 0 (.fx 1 (.fl 2 (.nil)) .stop)) rfl ?_
      refine OKS.r rfl rfl rfl rfl (fun _ => Runs.mv rfl f873) ?_
      obtain ⟨φ877, le878, hs879, hS880⟩ := hS867.freezeR (k := 4) (n := y791.length) rfl (flatMap_len (f := encI) (sz := 1) (fun _ => rfl) y791) (by decide)
      have hS881 : St ⟨w, [], φ⟩ φ877 [.blk b48 134 [.slice A861 y788.length c862, .int .i64 y789, .int .u32 y790], .blk b10 134 [.slice A31 x18.bytes.length c32, .int .i64 x18.next, .int .u32 x18.state], .row A68 c69 33 4 (List.flatMap encT_target_Sheet y121), .row A730 c731 33 4 (List.flatMap encT_target_Sheet y122)] W850 := hS880
      obtain ⟨x882, h883, hm884⟩ := bnd hm784
      refine OKS.callH 0 rfl rfl rfl rfl (Enters.mk rfl rfl Try.call19 (mapcons rfl mapnil) rfl) hS881 (fun hs => w_klisterkit_Clone_int y791 A863 c864 W850 φ877 hs hs879 h883) (.inr rfl) ?_
      rintro φ885 L886 v887 W888 le889 hS890 ⟨A891, c892, rfl, rfl⟩
      have hS894 : St ⟨w, [], φ⟩ φ885 [.row A891 c892 3 1 (List.flatMap encI x882), .blk b48 134 [.slice A861 y788.length c862, .int .i64 y789, .int .u32 y790], .blk b10 134 [.slice A31 x18.bytes.length c32, .int .i64 x18.next, .int .u32 x18.state], .row A68 c69 33 4 (List.flatMap encT_target_Sheet y121), .row A730 c731 33 4 (List.flatMap encT_target_Sheet y122)] W888 := hS890
      refine OKS.r rfl rfl rfl rfl (fun _ => Runs.as rfl rfl) ?_
      refine OKS.e ?_
      refine thenQ_n ?_
      refine CK.seq ?_
      refine CK.reg (ks := []) (.fl 0 (.fx 1 (.nil) .stop)) rfl ?_
      refine OKS.r rfl rfl rfl rfl (fun _ => Runs.mv rfl rfl) ?_
      obtain ⟨x895, h896, hm897⟩ := bnd hm884
      refine OKS.callH 1 rfl rfl rfl rfl (Enters.mk rfl rfl Try.call20 (mapcons rfl mapnil) rfl) hS894 (fun hs => w_slices_Reverse_int_int x882 A891 c892 W888 φ885 hs h896) (.inl rfl) ?_
      rintro φ898 L899 v900 W901 le902 hS903 ⟨rfl, rfl, h904⟩
      have hS905 : St ⟨w, [], φ⟩ φ898 [.row A891 c892 3 1 (List.flatMap encI x895), .blk b48 134 [.slice A861 y788.length c862, .int .i64 y789, .int .u32 y790], .blk b10 134 [.slice A31 x18.bytes.length c32, .int .i64 x18.next, .int .u32 x18.state], .row A68 c69 33 4 (List.flatMap encT_target_Sheet y121), .row A730 c731 33 4 (List.flatMap encT_target_Sheet y122)] W901 := hS903
      refine OKS.e ?_
      refine thenQ_n ?_
      refine CK.seq ?_
      refine CK.reg (ks := []) (.fl 0 (.fl 1 (.fx 2 (.fl 3 (.fl 4 (.fl 5 (.fl 6 (.fl 7 (.nil)))))) .stop))) rfl ?_
      refine OKS.r rfl rfl rfl rfl (fun _ => Runs.mv rfl f869) ?_
      refine OKS.r rfl rfl rfl rfl (fun _ => Runs.mv rfl f868) ?_
      have h906 := hs56.le le66
      have h907 := h906.le le733
      have h908 := h907.le le866
      have h909 := h908.le le878
      have h910 := h909.le le889
      have h911 := h910.le le902
      obtain ⟨⟨x912, x913⟩, h914, hm915⟩ := bnd hm897
      try dsimp only at hm915
      refine OKS.callH 0 rfl rfl rfl rfl (Enters.mk rfl rfl Try.call21 (mapcons rfl (mapcons rfl mapnil)) rfl) hS905 (fun hs => w_target_Skied (↑x16.length : Int) x17 A29 c30 W901 φ898 hs h911 h914) (.inr rfl) ?_
      rintro φ916 L917 v918 W919 le920 hS921 ⟨A922, c923, rfl, rfl⟩
      have hS925 : St ⟨w, [], φ⟩ φ916 [.row A922 c923 31 2 (List.flatMap encT_api_Span x912), .row A891 c892 3 1 (List.flatMap encI x895), .blk b48 134 [.slice A861 y788.length c862, .int .i64 y789, .int .u32 y790], .blk b10 134 [.slice A31 x18.bytes.length c32, .int .i64 x18.next, .int .u32 x18.state], .row A68 c69 33 4 (List.flatMap encT_target_Sheet y121), .row A730 c731 33 4 (List.flatMap encT_target_Sheet y122)] W919 := hS921
      refine OKS.r rfl rfl rfl rfl (fun _ => Runs.mv rfl rfl) ?_
      refine OKS.r rfl rfl rfl rfl (fun _ => Runs.ext rfl rfl (v := .slice A922 x912.length c923) rfl) ?_
      refine OKS.r rfl rfl rfl rfl (fun _ => Runs.ext rfl rfl (v := .int .i64 x913) rfl) ?_
      refine OKS.r rfl rfl rfl rfl (fun _ => Runs.as rfl rfl) ?_
      refine OKS.r rfl rfl rfl rfl (fun _ => Runs.as rfl rfl) ?_
      refine OKS.e ?_
      refine thenQ_n ?_
      refine CK.seq ?_
      refine CK.reg (ks := []) (.fl 0 (.fl 1 (.fx 2 (.fl 3 (.fl 4 (.fl 5 (.fl 6 (.fl 7 (.nil)))))) .stop))) rfl ?_
      refine OKS.r rfl rfl rfl rfl (fun _ => Runs.mv rfl f869) ?_
      refine OKS.r rfl rfl rfl rfl (fun _ => Runs.mv rfl f871) ?_
      obtain ⟨φ926, le927, hs928, hS929⟩ := hS925.freezeR (k := 4) (n := y121.length) rfl (flatMap_len (f := encT_target_Sheet) (sz := 4) (fun _ => rfl) y121) (by decide)
      have hS930 : St ⟨w, [], φ⟩ φ926 [.row A922 c923 31 2 (List.flatMap encT_api_Span x912), .row A891 c892 3 1 (List.flatMap encI x895), .blk b48 134 [.slice A861 y788.length c862, .int .i64 y789, .int .u32 y790], .blk b10 134 [.slice A31 x18.bytes.length c32, .int .i64 x18.next, .int .u32 x18.state], .row A730 c731 33 4 (List.flatMap encT_target_Sheet y122)] W919 := hS929
      obtain ⟨⟨x931, x932⟩, h933, hm934⟩ := bnd hm915
      try dsimp only at hm934
      refine OKS.callH 0 rfl rfl rfl rfl (Enters.mk rfl rfl Try.call21 (mapcons rfl (mapcons rfl mapnil)) rfl) hS930 (fun hs => w_target_Skied (↑x16.length : Int) y121 A68 c69 W919 φ926 hs hs928 h933) (.inr rfl) ?_
      rintro φ935 L936 v937 W938 le939 hS940 ⟨A941, c942, rfl, rfl⟩
      have hS944 : St ⟨w, [], φ⟩ φ935 [.row A941 c942 31 2 (List.flatMap encT_api_Span x931), .row A922 c923 31 2 (List.flatMap encT_api_Span x912), .row A891 c892 3 1 (List.flatMap encI x895), .blk b48 134 [.slice A861 y788.length c862, .int .i64 y789, .int .u32 y790], .blk b10 134 [.slice A31 x18.bytes.length c32, .int .i64 x18.next, .int .u32 x18.state], .row A730 c731 33 4 (List.flatMap encT_target_Sheet y122)] W938 := hS940
      refine OKS.r rfl rfl rfl rfl (fun _ => Runs.mv rfl rfl) ?_
      refine OKS.r rfl rfl rfl rfl (fun _ => Runs.ext rfl rfl (v := .slice A941 x931.length c942) rfl) ?_
      refine OKS.r rfl rfl rfl rfl (fun _ => Runs.ext rfl rfl (v := .int .i64 x932) rfl) ?_
      refine OKS.r rfl rfl rfl rfl (fun _ => Runs.as rfl rfl) ?_
      refine OKS.r rfl rfl rfl rfl (fun _ => Runs.as rfl rfl) ?_
      refine OKS.e ?_
      refine thenQ_n ?_
      refine CK.seq ?_
      refine CK.reg (ks := []) (.fl 0 (.fl 1 (.fx 2 (.fl 3 (.fl 4 (.fl 5 (.fl 6 (.fl 7 (.nil)))))) .stop))) rfl ?_
      refine OKS.r rfl rfl rfl rfl (fun _ => Runs.mv rfl f869) ?_
      refine OKS.r rfl rfl rfl rfl (fun _ => Runs.mv rfl f872) ?_
      obtain ⟨φ945, le946, hs947, hS948⟩ := hS944.freezeR (k := 5) (n := y122.length) rfl (flatMap_len (f := encT_target_Sheet) (sz := 4) (fun _ => rfl) y122) (by decide)
      have hS949 : St ⟨w, [], φ⟩ φ945 [.row A941 c942 31 2 (List.flatMap encT_api_Span x931), .row A922 c923 31 2 (List.flatMap encT_api_Span x912), .row A891 c892 3 1 (List.flatMap encI x895), .blk b48 134 [.slice A861 y788.length c862, .int .i64 y789, .int .u32 y790], .blk b10 134 [.slice A31 x18.bytes.length c32, .int .i64 x18.next, .int .u32 x18.state]] W938 := hS948
      obtain ⟨⟨x950, x951⟩, h952, hm953⟩ := bnd hm934
      try dsimp only at hm953
      refine OKS.callH 0 rfl rfl rfl rfl (Enters.mk rfl rfl Try.call21 (mapcons rfl (mapcons rfl mapnil)) rfl) hS949 (fun hs => w_target_Skied (↑x16.length : Int) y122 A730 c731 W938 φ945 hs hs947 h952) (.inr rfl) ?_
      rintro φ954 L955 v956 W957 le958 hS959 ⟨A960, c961, rfl, rfl⟩
      have hS963 : St ⟨w, [], φ⟩ φ954 [.row A960 c961 31 2 (List.flatMap encT_api_Span x950), .row A941 c942 31 2 (List.flatMap encT_api_Span x931), .row A922 c923 31 2 (List.flatMap encT_api_Span x912), .row A891 c892 3 1 (List.flatMap encI x895), .blk b48 134 [.slice A861 y788.length c862, .int .i64 y789, .int .u32 y790], .blk b10 134 [.slice A31 x18.bytes.length c32, .int .i64 x18.next, .int .u32 x18.state]] W957 := hS959
      refine OKS.r rfl rfl rfl rfl (fun _ => Runs.mv rfl rfl) ?_
      refine OKS.r rfl rfl rfl rfl (fun _ => Runs.ext rfl rfl (v := .slice A960 x950.length c961) rfl) ?_
      refine OKS.r rfl rfl rfl rfl (fun _ => Runs.ext rfl rfl (v := .int .i64 x951) rfl) ?_
      refine OKS.r rfl rfl rfl rfl (fun _ => Runs.as rfl rfl) ?_
      refine OKS.r rfl rfl rfl rfl (fun _ => Runs.as rfl rfl) ?_
      refine OKS.e ?_
      refine thenQ_n ?_
      refine CK.seq ?_
      refine CK.seq ?_
      refine CK.fresh fun σ964 hσ965 => ?_
      have f966 : σ964 6 = .slice A29 x17.length c30 := (hσ965 6).trans f868
      have f967 : σ964 7 = .int .i64 (↑x16.length : Int) := (hσ965 7).trans f869
      have f968 : σ964 9 = .slice A68 y121.length c69 := (hσ965 9).trans f871
      have f969 : σ964 10 = .slice A730 y122.length c731 := (hσ965 10).trans f872
      have f970 : σ964 13 = .slice A863 y791.length c864 := (hσ965 13).trans f873
      have f971 : σ964 14 = .slice A891 x895.length c892 := (hσ965 14).trans (Eq.trans (b := (.slice A891 x882.length c892 : Value)) (c := (.slice A891 x895.length c892 : Value)) rfl (by rw [h904]))
      have f972 : σ964 15 = .slice A922 x912.length c923 := (hσ965 15).trans rfl
      have f973 : σ964 16 = .int .i64 x913 := (hσ965 16).trans rfl
      have f974 : σ964 17 = .slice A941 x931.length c942 := (hσ965 17).trans rfl
      have f975 : σ964 18 = .int .i64 x932 := (hσ965 18).trans rfl
      have f976 : σ964 19 = .slice A960 x950.length c961 := (hσ965 19).trans rfl
      have f977 : σ964 20 = .int .i64 x951 := (hσ965 20).trans rfl
      clear hσ965
      refine CK.reg (ks := []) (.fl 0 (.fl 1 (.fl 2 (.fl 3 (.fl 4 (.fl 5 (.fl 6 (.fl 7 (.fl 8 (.fl 9 (.fl 10 (.fl 11 (.fl 12 (.fl 13 (.fl 14 (.fl 15 (.fl 16 (.fl 17 (.fl 18 (.fl 19 (.fl 20 (.fl 21 (.fl 22 (.fl 23 (.fl 24 (.fl 25 (.fl 26 (.fl 27 (.nil))))))))))))))))))))))))))))) rfl ?_
      refine OKS.r rfl rfl rfl rfl (fun _ => Runs.mv rfl f973) ?_
      refine OKS.r rfl rfl rfl rfl (fun _ => Runs.neq rfl rfl rfl) ?_
      refine OKS.r rfl rfl rfl rfl (fun _ => Runs.mv rfl rfl) ?_
      by_cases c978 : x913 = 0
      · have hm979 := hm953; rw [if_pos c978] at hm979; replace c978 := Hid.mk c978
        refine OKS.r rfl rfl rfl (wantedY rfl rfl (decF (fun h => h c978.out))) (fun _ => Runs.mv rfl f975) ?_
        refine OKS.r rfl rfl rfl (wantedY rfl rfl (decF (fun h => h c978.out))) (fun _ => Runs.neq rfl rfl rfl) ?_
        refine OKS.r rfl rfl rfl rfl (fun _ => Runs.pickF rfl (decF (fun h => h c978.out)) rfl) ?_
        refine OKS.r rfl rfl rfl rfl (fun _ => Runs.mv rfl rfl) ?_
        by_cases c980 : x932 = 0
        · have hm981 := hm979; rw [if_pos c980] at hm981; replace c980 := Hid.mk c980
          refine OKS.r rfl rfl rfl (wantedY rfl rfl (decF (fun h => h c980.out))) (fun _ => Runs.mv rfl f977) ?_
          refine OKS.r rfl rfl rfl (wantedY rfl rfl (decF (fun h => h c980.out))) (fun _ => Runs.neq rfl rfl rfl) ?_
          refine OKS.r rfl rfl rfl rfl (fun _ => Runs.pickF rfl (decF (fun h => h c980.out)) rfl) ?_
          refine OKS.r rfl rfl rfl rfl (fun _ => Runs.mv rfl rfl) ?_
          by_cases c982 : x951 = 0
          · have hm983 := hm981; rw [if_pos c982] at hm983; replace c982 := Hid.mk c982
            refine OKS.r rfl rfl rfl (wantedY rfl rfl (decF (fun h => h c982.out))) (fun _ => Runs.mv rfl f972) ?_
            refine OKS.r rfl rfl rfl (wantedY rfl rfl (decF (fun h => h c982.out))) (fun _ => Runs.len rfl rfl Try.runUnderlying38) ?_
            refine OKS.r rfl rfl rfl (wantedY rfl rfl (decF (fun h => h c982.out))) (fun _ => Runs.mv rfl f967) ?_
            refine OKS.r rfl rfl rfl (wantedY rfl rfl (decF (fun h => h c982.out))) (fun _ => Runs.neq rfl rfl rfl) ?_
            refine OKS.r rfl rfl rfl rfl (fun _ => Runs.pickF rfl (decF (fun h => h c982.out)) rfl) ?_
            refine OKS.r rfl rfl rfl rfl (fun _ => Runs.mv rfl rfl) ?_
            by_cases c984 : (↑x912.length : Int) = (↑x16.length : Int)
            · have hm985 := hm983; rw [if_pos c984] at hm985; replace c984 := Hid.mk c984
              refine OKS.r rfl rfl rfl (wantedY rfl rfl (decF (fun h => h c984.out))) (fun _ => Runs.mv rfl f974) ?_
              refine OKS.r rfl rfl rfl (wantedY rfl rfl (decF (fun h => h c984.out))) (fun _ => Runs.len rfl rfl Try.runUnderlying38) ?_
              refine OKS.r rfl rfl rfl (wantedY rfl rfl (decF (fun h => h c984.out))) (fun _ => Runs.mv rfl f967) ?_
              refine OKS.r rfl rfl rfl (wantedY rfl rfl (decF (fun h => h c984.out))) (fun _ => Runs.neq rfl rfl rfl) ?_
              refine OKS.r rfl rfl rfl rfl (fun _ => Runs.pickF rfl (decF (fun h => h c984.out)) rfl) ?_
              refine OKS.r rfl rfl rfl rfl (fun _ => Runs.mv rfl rfl) ?_
              by_cases c986 : (↑x931.length : Int) = (↑x16.length : Int)
              · have hm987 := hm985; rw [if_pos c986] at hm987; replace c986 := Hid.mk c986
                refine OKS.r rfl rfl rfl (wantedY rfl rfl (decF (fun h => h c986.out))) (fun _ => Runs.mv rfl f976) ?_
                refine OKS.r rfl rfl rfl (wantedY rfl rfl (decF (fun h => h c986.out))) (fun _ => Runs.len rfl rfl Try.runUnderlying38) ?_
                refine OKS.r rfl rfl rfl (wantedY rfl rfl (decF (fun h => h c986.out))) (fun _ => Runs.mv rfl f967) ?_
                refine OKS.r rfl rfl rfl (wantedY rfl rfl (decF (fun h => h c986.out))) (fun _ => Runs.neq rfl rfl rfl) ?_
                refine OKS.r rfl rfl rfl rfl (fun _ => Runs.pickF rfl (decF (fun h => h c986.out)) rfl) ?_
                refine OKS.e ?_
                refine thenQ_n ?_
                by_cases c988 : (↑x950.length : Int) = (↑x16.length : Int)
                · have hm989 := hm987; rw [if_pos c988] at hm989; replace c988 := Hid.mk c988
                  refine CK.condF (decF (fun h => h c988.out)) ?_
                  refine CK.skip ?_
                  refine thenQ_n ?_
                  refine CK.seq ?_
                  refine CK.seq ?_
                  refine CK.reg (ks := []) (.fl 0 (.fl 1 (.nil))) rfl ?_
                  refine OKS.r rfl rfl rfl rfl (fun _ => Runs.mv rfl f967) ?_
                  refine OKS.r rfl rfl rfl rfl (fun _ => Runs.mv rfl rfl) ?_
                  refine OKS.e ?_
                  refine thenQ_n ?_
                  refine CK.block ?_
                  obtain ⟨r993, hX994⟩ := jn_some hm989
                  obtain ⟨hle995, hf996⟩ := forR_le hX994
                  replace hle995 := Hid.mk hle995
                  refine CK.forN (fun k992 _ σ_ w_ => ∃ (φ_ : PHeap), σ_ 144 = .int .i64 (↑k992 : Int) ∧ σ_ 6 = .slice A29 x17.length c30 ∧ σ_ 7 = .int .i64 (↑x16.length : Int) ∧ σ_ 9 = .slice A68 y121.length c69 ∧ σ_ 10 = .slice A730 y122.length c731 ∧ σ_ 13 = .slice A863 y791.length c864 ∧ σ_ 14 = .slice A891 x895.length c892 ∧ σ_ 15 = .slice A922 x912.length c923 ∧ σ_ 17 = .slice A941 x931.length c942 ∧ σ_ 19 = .slice A960 x950.length c961 ∧ σ_ 143 = .int .i64 (↑x16.length : Int) ∧ PHeap.Le φ954 φ_ ∧ St ⟨w, [], φ⟩ φ_ [.blk b48 134 [.slice A861 y788.length c862, .int .i64 y789, .int .u32 y790], .blk b10 134 [.slice A31 x18.bytes.length c32, .int .i64 x18.next, .int .u32 x18.state], .row A891 c892 3 1 (List.flatMap encI x895), .row A922 c923 31 2 (List.flatMap encT_api_Span x912), .row A941 c942 31 2 (List.flatMap encT_api_Span x931), .row A960 c961 31 2 (List.flatMap encT_api_Span x950)] w_) hf996 ?_ ?_ ?_
                  · exact ⟨φ954, rfl, f966, f967, f968, f969, f970, f971, f972, f974, f976, rfl, (PHeap.Le.refl _), (hS963.pick [4, 5, 3, 2, 1, 0] _ (by decide) rfl)⟩
                  · rintro k992 ⟨⟩ xx999 σ997 W998 hk1002 ⟨φ1004, fi1003, f1007, f1008, f1009, f1010, f1011, f1012, f1013, f1014, f1015, f1016, le1005, hS1006⟩ hx1000 hb1001
                    try dsimp only at hx1000
                    have c1017 : Hid ((↑k992 : Int) < (↑x16.length : Int)) := Hid.mk (lp_lt0 hk1002)
                    replace hk1002 := Hid.mk hk1002
                    have hi1018 : Hid (w64 ((↑k992 : Int) + 1) = (↑(k992 + 1) : Int)) := Hid.mk (by have h1 := hle995.out; have h2 := c1017.out; rw [w64_in] <;> omega)
                    refine CK.seq ?_
                    refine CK.reg (ks := []) (.fl 0 (.nil)) rfl ?_
                    refine OKS.r rfl rfl rfl rfl (fun _ => Runs.lss rfl fi1003 f1016) ?_
                    refine OKS.e ?_
                    refine thenQ_n ?_
                    refine CK.seq ?_
                    refine CK.condT (decT c1017.out) ?_
                    refine CK.skip ?_
                    refine thenQ_n ?_
                    refine CK.seq ?_
                    refine CK.block ?_
                    refine CK.seq ?_
                    refine CK.reg (ks := []) (.fl 0 (.fl 1 (.nil))) rfl ?_
                    refine OKS.r rfl rfl rfl rfl (fun _ => Runs.mv rfl fi1003) ?_
                    refine OKS.r rfl rfl rfl rfl (fun _ => Runs.as rfl rfl) ?_
                    refine OKS.e ?_
                    refine thenQ_n ?_
                    refine CK.seq ?_
                    refine CK.anyOrd Try.mixed [3, 3, 3, 1, 3, 3, 3, 1, 2, 3, 3, 3, 3, 3, 3, 3, 3, 1, 3, 3, 3, 1, 3, 3] (.fl 0 (.fl 1 (.fl 2 (.fl 3 (.fl 4 (.fl 5 (.fl 6 (.fl 7 (.fx 8 (.fl 9 (.fl 10 (.fl 11 (.fl 12 (.fl 13 (.fl 14 (.fl 15 (.fl 16 (.fl 17 (.fl 18 (.fl 19 (.fl 20 (.fl 21 (.fl 22 (.fl 23 (.nil)))))))))))))))) .stop))))))))) (by kernel_rfl) ?_
                    have hS1019 := hS1006.drew
                    generalize hw_W1020 : ({ W998 with drawn := W998.drawn + 1 } : World) = W1020 at hS1019 ⊢
                    refine OKS.r rfl rfl rfl rfl (fun _ => Runs.mv rfl f1014) ?_
                    refine OKS.r rfl rfl rfl rfl (fun _ => Runs.mv rfl rfl) ?_
                    obtain ⟨_, h1021, hm1022⟩ := bnd hx1000
                    obtain ⟨b1023, hA1024⟩ := hS1019.rowSome (j := 4) rfl (by rw [flatMap_len (f := encT_api_Span) (sz := 2) (fun _ => rfl) x931]; have hz := chk_lt h1021; omega)
                    refine OKS.r rfl rfl rfl rfl (fun _ => Runs.iaN rfl rfl hA1024 rfl Try.runUnderlying38 Try.sizeOf31 (chk_lt h1021)) ?_
                    have hg1025 := gd_at (xs := x931) (chk_lt h1021)
                    refine OKS.m rfl rfl rfl rfl (hS1019.ldRA (j := 4) rfl hA1024 rfl rfl Try.isAgg31 Try.sizeOf31 (vs := [.int .i64 ((gd x931 k992).Lo), .int .i64 ((gd x931 k992).Hi)]) (flatMap_sub (sz := 2) (fun _ => rfl) _ _ _ hg1025 (by omega) rfl) rfl) rfl ?_
                    refine OKS.r rfl rfl rfl rfl (fun _ => Runs.mv rfl f1013) ?_
                    refine OKS.r rfl rfl rfl rfl (fun _ => Runs.mv rfl rfl) ?_
                    obtain ⟨_, h1026, hm1027⟩ := bnd hm1022
                    obtain ⟨b1028, hA1029⟩ := hS1019.rowSome (j := 3) rfl (by rw [flatMap_len (f := encT_api_Span) (sz := 2) (fun _ => rfl) x912]; have hz := chk_lt h1026; omega)
                    refine OKS.r rfl rfl rfl rfl (fun _ => Runs.iaN rfl rfl hA1029 rfl Try.runUnderlying38 Try.sizeOf31 (chk_lt h1026)) ?_
                    have hg1030 := gd_at (xs := x912) (chk_lt h1026)
                    refine OKS.m rfl rfl rfl rfl (hS1019.ldRA (j := 3) rfl hA1029 rfl rfl Try.isAgg31 Try.sizeOf31 (vs := [.int .i64 ((gd x912 k992).Lo), .int .i64 ((gd x912 k992).Hi)]) (flatMap_sub (sz := 2) (fun _ => rfl) _ _ _ hg1030 (by omega) rfl) rfl) rfl ?_
                    obtain ⟨x1031, h1032, hm1033⟩ := bnd hm1027
                    refine OKS.callH 0 rfl rfl rfl rfl (Enters.mk rfl rfl Try.call22 (mapcons rfl (mapcons rfl mapnil)) rfl) hS1019 (fun hs => w_klisterlaw03_wide (gd x931 k992) (gd x912 k992) W1020 φ1004 hs h1032) (.inr rfl) ?_
                    rintro φ1034 L1035 v1036 W1037 le1038 hS1039 ⟨rfl, rfl⟩
                    have hS1040 : St ⟨w, [], φ⟩ φ1034 [.blk b48 134 [.slice A861 y788.length c862, .int .i64 y789, .int .u32 y790], .blk b10 134 [.slice A31 x18.bytes.length c32, .int .i64 x18.next, .int .u32 x18.state], .row A891 c892 3 1 (List.flatMap encI x895), .row A922 c923 31 2 (List.flatMap encT_api_Span x912), .row A941 c942 31 2 (List.flatMap encT_api_Span x931), .row A960 c961 31 2 (List.flatMap encT_api_Span x950)] W1037 := hS1039
                    refine OKS.r rfl rfl rfl rfl (fun _ => Runs.notT rfl rfl) ?_
                    refine OKS.r rfl rfl rfl rfl (fun _ => Runs.mv rfl rfl) ?_
                    by_cases c1041 : x1031 = true
                    · have hm1042 := hm1033; rw [if_pos c1041] at hm1042; replace c1041 := Hid.mk c1041
                      refine OKS.r rfl rfl rfl (wantedY rfl rfl (congrArg (fun b => Value.bool (!b)) c1041.out)) (fun _ => Runs.mv rfl f1015) ?_
                      refine OKS.r rfl rfl rfl (wantedY rfl rfl (congrArg (fun b => Value.bool (!b)) c1041.out)) (fun _ => Runs.mv rfl f1008) ?_
                      refine OKS.r rfl rfl rfl (wantedY rfl rfl (congrArg (fun b => Value.bool (!b)) c1041.out)) (fun _ => Runs.subw rfl rfl rfl) ?_
                      refine OKS.r rfl rfl rfl (wantedY rfl rfl (congrArg (fun b => Value.bool (!b)) c1041.out)) (fun _ => Runs.mv rfl rfl) ?_
                      refine OKS.r rfl rfl rfl (wantedY rfl rfl (congrArg (fun b => Value.bool (!b)) c1041.out)) (fun _ => Runs.subw rfl rfl rfl) ?_
                      obtain ⟨_, h1043, hm1044⟩ := bnd hm1042
                      obtain ⟨b1045, hA1046⟩ := hS1040.rowSome (j := 5) rfl (by rw [flatMap_len (f := encT_api_Span) (sz := 2) (fun _ => rfl) x950]; have hz := chk_lt h1043; omega)
                      refine OKS.r rfl rfl rfl (wantedY rfl rfl (congrArg (fun b => Value.bool (!b)) c1041.out)) (fun _ => Runs.iaI rfl rfl hA1046 rfl Try.runUnderlying38 Try.sizeOf31 (chk_lo h1043) (chk_hi h1043)) ?_
                      have hg1047 := gd_at (xs := x950) (chk_lt h1043)
                      refine OKS.m rfl rfl rfl (wantedY rfl rfl (congrArg (fun b => Value.bool (!b)) c1041.out)) (hS1040.ldRA (j := 5) rfl hA1046 rfl rfl Try.isAgg31 Try.sizeOf31 (vs := [.int .i64 ((gd x950 (w64 ((w64 ((↑x16.length : Int) - 1)) - (↑k992 : Int))).toNat).Lo), .int .i64 ((gd x950 (w64 ((w64 ((↑x16.length : Int) - 1)) - (↑k992 : Int))).toNat).Hi)]) (flatMap_sub (sz := 2) (fun _ => rfl) _ _ _ hg1047 (by omega) rfl) rfl) rfl ?_
                      refine OKS.r rfl rfl rfl (wantedY rfl rfl (congrArg (fun b => Value.bool (!b)) c1041.out)) (fun _ => Runs.mv rfl f1013) ?_
                      refine OKS.r rfl rfl rfl (wantedY rfl rfl (congrArg (fun b => Value.bool (!b)) c1041.out)) (fun _ => Runs.mv rfl rfl) ?_
                      refine OKS.r rfl rfl rfl (wantedY rfl rfl (congrArg (fun b => Value.bool (!b)) c1041.out)) (fun _ => Runs.iaN rfl rfl hA1029 rfl Try.runUnderlying38 Try.sizeOf31 (chk_lt h1026)) ?_
                      have hg1048 := gd_at (xs := x912) (chk_lt h1026)
                      refine OKS.m rfl rfl rfl (wantedY rfl rfl (congrArg (fun b => Value.bool (!b)) c1041.out)) (hS1040.ldRA (j := 3) rfl hA1029 rfl rfl Try.isAgg31 Try.sizeOf31 (vs := [.int .i64 ((gd x912 k992).Lo), .int .i64 ((gd x912 k992).Hi)]) (flatMap_sub (sz := 2) (fun _ => rfl) _ _ _ hg1048 (by omega) rfl) rfl) rfl ?_
                      refine OKS.r rfl rfl rfl (wantedY rfl rfl (congrArg (fun b => Value.bool (!b)) c1041.out)) (fun _ => Runs.to (Runs.neS (enc := encT_api_Span) (a := (gd x950 (w64 ((w64 ((↑x16.length : Int) - 1)) - (↑k992 : Int))).toNat)) (b := (gd x912 k992)) rfl rfl rfl eqT31 eqG31) (congrArg Value.bool (decide_not).symm)) ?_
                      refine OKS.r rfl rfl rfl rfl (fun _ => Runs.pickF rfl (congrArg (fun b => Value.bool (!b)) c1041.out) rfl) ?_
                      refine OKS.e ?_
                      refine thenQ_n ?_
                      by_cases c1049 : (gd x950 (w64 ((w64 ((↑x16.length : Int) - 1)) - (↑k992 : Int))).toNat) = (gd x912 k992)
                      · have hm1050 := hm1044; rw [if_pos c1049] at hm1050; replace c1049 := Hid.mk c1049
                        refine CK.condF (decF (fun h => h c1049.out)) ?_
                        refine CK.skip ?_
                        refine blockQ_n ?_
                        refine thenQ_n ?_
                        refine CK.reg (ks := []) (.fl 0 (.fl 1 (.nil))) rfl ?_
                        refine OKS.r rfl rfl rfl rfl (fun _ => Runs.to (Runs.addw rfl fi1003 rfl) (congrArg (Value.int .i64) hi1018.out)) ?_
                        refine OKS.r rfl rfl rfl rfl (fun _ => Runs.mv rfl rfl) ?_
                        refine OKS.e ?_
                        obtain rfl := Option.some.inj hm1050
                        exact thenQ_n ⟨rfl, _, rfl, ⟨φ1034, rfl, f1007, f1008, f1009, f1010, f1011, f1012, f1013, f1014, f1015, f1016, (le1005.trans le1038), hS1040⟩⟩
                      · have hm1051 := hm1044; rw [if_neg c1049] at hm1051; replace c1049 := Hid.mk c1049
                        refine CK.condT (decT c1049.out) ?_
                        refine CK.seq ?_
                        refine CK.reg (ks := []) (.fl 0 (.nil)) rfl ?_
                        refine OKS.r rfl rfl rfl rfl (fun _ => Runs.as rfl rfl) ?_
                        refine OKS.e ?_
                        refine thenQ_n ?_
                        refine CK.ret ?_
                        refine blockQ_r ?_
                        refine thenQ_r ?_
                        obtain ⟨v1052, hm1053, e1054⟩ := esc_spec hm1051
                        obtain rfl := jn_inr hm989 hX994 (hb1001 v1052 e1054)
                        refine thenQ_r ?_
                        refine blockQ_r ?_
                        refine thenQ_r ?_
                        cases hm1053
                        exact ⟨rfl, _, (res1 rfl), φ1034, _, (hS1040.pick [] _ (by decide) rfl), rfl, rfl⟩
                    · have hm1055 := hm1033; rw [if_neg c1041] at hm1055; replace c1041 := Hid.mk c1041
                      refine OKS.p rfl rfl rfl (wantedN rfl rfl (congrArg (fun b => Value.bool (!b)) (Bool.eq_false_iff.2 c1041.out)) rfl) ?_
                      refine OKS.p rfl rfl rfl (wantedN rfl rfl (congrArg (fun b => Value.bool (!b)) (Bool.eq_false_iff.2 c1041.out)) rfl) ?_
                      refine OKS.p rfl rfl rfl (wantedN rfl rfl (congrArg (fun b => Value.bool (!b)) (Bool.eq_false_iff.2 c1041.out)) rfl) ?_
                      refine OKS.p rfl rfl rfl (wantedN rfl rfl (congrArg (fun b => Value.bool (!b)) (Bool.eq_false_iff.2 c1041.out)) rfl) ?_
                      refine OKS.p rfl rfl rfl (wantedN rfl rfl (congrArg (fun b => Value.bool (!b)) (Bool.eq_false_iff.2 c1041.out)) rfl) ?_
                      refine OKS.p rfl rfl rfl (wantedN rfl rfl (congrArg (fun b => Value.bool (!b)) (Bool.eq_false_iff.2 c1041.out)) rfl) ?_
                      refine OKS.p rfl rfl rfl (wantedN rfl rfl (congrArg (fun b => Value.bool (!b)) (Bool.eq_false_iff.2 c1041.out)) rfl) ?_
                      refine OKS.p rfl rfl rfl (wantedN rfl rfl (congrArg (fun b => Value.bool (!b)) (Bool.eq_false_iff.2 c1041.out)) rfl) ?_
                      refine OKS.p rfl rfl rfl (wantedN rfl rfl (congrArg (fun b => Value.bool (!b)) (Bool.eq_false_iff.2 c1041.out)) rfl) ?_
                      refine OKS.p rfl rfl rfl (wantedN rfl rfl (congrArg (fun b => Value.bool (!b)) (Bool.eq_false_iff.2 c1041.out)) rfl) ?_
                      refine OKS.p rfl rfl rfl (wantedN rfl rfl (congrArg (fun b => Value.bool (!b)) (Bool.eq_false_iff.2 c1041.out)) rfl) ?_
                      refine OKS.p rfl rfl rfl (wantedN rfl rfl (congrArg (fun b => Value.bool (!b)) (Bool.eq_false_iff.2 c1041.out)) rfl) ?_
                      refine OKS.r rfl rfl rfl rfl (fun _ => Runs.pickT rfl (congrArg (fun b => Value.bool (!b)) (Bool.eq_false_iff.2 c1041.out)) rfl) ?_
                      refine OKS.e ?_
                      refine thenQ_n ?_
                      refine CK.condT rfl ?_
                      refine CK.seq ?_
                      refine CK.reg (ks := []) (.fl 0 (.nil)) rfl ?_
                      refine OKS.r rfl rfl rfl rfl (fun _ => Runs.as rfl rfl) ?_
                      refine OKS.e ?_
                      refine thenQ_n ?_
                      refine CK.ret ?_
                      refine blockQ_r ?_
                      refine thenQ_r ?_
                      obtain ⟨v1056, hm1057, e1058⟩ := esc_spec hm1055
                      obtain rfl := jn_inr hm989 hX994 (hb1001 v1056 e1058)
                      refine thenQ_r ?_
                      refine blockQ_r ?_
                      refine thenQ_r ?_
                      cases hm1057
                      exact ⟨rfl, _, (res1 rfl), φ1034, _, (hS1040.pick [] _ (by decide) rfl), rfl, rfl⟩
                  · rintro ⟨⟩ σ1059 W1060 ⟨φ1063, fi1062, f1066, f1067, f1068, f1069, f1070, f1071, f1072, f1073, f1074, f1075, le1064, hS1065⟩ hb1061
                    have hm1076 := jn_inl hm989 hX994 hb1061
                    try dsimp only at hm1076
                    have c1077 : Hid (¬ ((↑(((↑x16.length : Int) : Int) - 0).toNat : Int) < (↑x16.length : Int))) := Hid.mk (lp_end0)
                    refine CK.seq ?_
                    refine CK.reg (ks := []) (.fl 0 (.nil)) rfl ?_
                    refine OKS.r rfl rfl rfl rfl (fun _ => Runs.lss rfl fi1062 f1075) ?_
                    refine OKS.e ?_
                    refine thenQ_n ?_
                    refine CK.seq ?_
                    refine CK.condF (decF c1077.out) ?_
                    refine CK.exit ?_
                    refine thenQ_e ?_
                    refine thenQ_e ?_
                    refine blockQ_h ?_
                    refine thenQ_n ?_
                    refine CK.seq ?_
                    refine CK.seq ?_
                    refine CK.reg (ks := []) (.fl 0 (.fl 1 (.fl 2 (.nil)))) rfl ?_
                    refine OKS.r rfl rfl rfl rfl (fun _ => Runs.mv rfl f1066) ?_
                    refine OKS.r rfl rfl rfl rfl (fun _ => Runs.len rfl rfl Try.runUnderlying24) ?_
                    refine OKS.r rfl rfl rfl rfl (fun _ => Runs.gtr rfl rfl rfl) ?_
                    refine OKS.e ?_
                    refine thenQ_n ?_
                    by_cases c1078 : 0 < (↑x17.length : Int)
                    · have hm1079 := hm1076; rw [if_pos c1078] at hm1079; replace c1078 := Hid.mk c1078
                      refine CK.condT (decT c1078.out) ?_
                      refine CK.seq ?_
                      refine CK.reg (ks := []) (.fl 0 (.fl 1 (.fl 2 (.fx 3 (.fl 4 (.fl 5 (.fl 6 (.fl 7 (.fl 8 (.nil)))))) .stop)))) rfl ?_
                      refine OKS.r rfl rfl rfl rfl (fun _ => Runs.mv rfl f1067) ?_
                      refine OKS.r rfl rfl rfl rfl (fun _ => Runs.mv rfl f1066) ?_
                      obtain ⟨x1080, h1081, hm1082⟩ := bnd hm1079
                      have h1092 := h911.le le920
                      have h1093 := h1092.le le927
                      have h1094 := h1093.le le939
                      have h1095 := h1094.le le946
                      have h1096 := h1095.le le958
                      have h1097 := h1096.le le1064
                      obtain ⟨sl1091, ha1088, hab1090, hb1089, hn1087⟩ := Sl.cutM (sz := 4) (f := encT_target_Sheet) h1097 (fun _ => rfl) h1081
                      refine OKS.r (v := .slice (if c30 = (1 : Int).toNat then A29 else Option.map (·.add ((1 : Int).toNat * 4)) A29) x1080.length (c30 - (1 : Int).toNat)) rfl rfl rfl rfl (fun _ => Runs.to (Runs.slc (sz := 4) (a := 1) (b := (↑(x17.length) : Int)) rfl rfl (.inl ⟨_, rfl, rfl⟩) (.inr ⟨rfl, rfl⟩) Try.runUnderlying24 Try.sizeOf33 ha1088 hab1090 hb1089 (h1097).cap) (by rw [hn1087])) ?_
                      generalize hA_A1084 : (if c30 = (1 : Int).toNat then A29 else Option.map (·.add ((1 : Int).toNat * 4)) A29) = A1084 at sl1091 ⊢
                      generalize hc_c1085 : c30 - (1 : Int).toNat = c1085 at sl1091 ⊢
                      obtain ⟨⟨x1098, x1099⟩, h1100, hm1101⟩ := bnd hm1082
                      try dsimp only at hm1101
                      refine OKS.callH 0 rfl rfl rfl rfl (Enters.mk rfl rfl Try.call21 (mapcons rfl (mapcons rfl mapnil)) rfl) hS1065 (fun hs => w_target_Skied (↑x16.length : Int) x1080 A1084 c1085 W1060 φ1063 hs sl1091 h1100) (.inr rfl) ?_
                      rintro φ1102 L1103 v1104 W1105 le1106 hS1107 ⟨A1108, c1109, rfl, rfl⟩
                      have hS1111 : St ⟨w, [], φ⟩ φ1102 [.row A1108 c1109 31 2 (List.flatMap encT_api_Span x1098), .blk b48 134 [.slice A861 y788.length c862, .int .i64 y789, .int .u32 y790], .blk b10 134 [.slice A31 x18.bytes.length c32, .int .i64 x18.next, .int .u32 x18.state], .row A891 c892 3 1 (List.flatMap encI x895), .row A922 c923 31 2 (List.flatMap encT_api_Span x912), .row A941 c942 31 2 (List.flatMap encT_api_Span x931), .row A960 c961 31 2 (List.flatMap encT_api_Span x950)] W1105 := hS1107
                      refine OKS.r rfl rfl rfl rfl (fun _ => Runs.mv rfl rfl) ?_
                      refine OKS.r rfl rfl rfl rfl (fun _ => Runs.ext rfl rfl (v := .slice A1108 x1098.length c1109) rfl) ?_
                      refine OKS.r rfl rfl rfl rfl (fun _ => Runs.ext rfl rfl (v := .int .i64 x1099) rfl) ?_
                      refine OKS.r rfl rfl rfl rfl (fun _ => Runs.as rfl rfl) ?_
                      refine OKS.r rfl rfl rfl rfl (fun _ => Runs.as rfl rfl) ?_
                      refine OKS.e ?_
                      refine thenQ_n ?_
                      refine CK.seq ?_
                      refine CK.seq ?_
                      refine CK.reg (ks := []) (.fl 0 (.fl 1 (.fl 2 (.fl 3 (.fl 4 (.fl 5 (.fl 6 (.fl 7 (.nil))))))))) rfl ?_
                      refine OKS.r rfl rfl rfl rfl (fun _ => Runs.mv rfl rfl) ?_
                      refine OKS.r rfl rfl rfl rfl (fun _ => Runs.neq rfl rfl rfl) ?_
                      refine OKS.r rfl rfl rfl rfl (fun _ => Runs.mv rfl rfl) ?_
                      by_cases c1112 : x1099 = 0
                      · have hm1113 := hm1101; rw [if_pos c1112] at hm1113; replace c1112 := Hid.mk c1112
                        refine OKS.r rfl rfl rfl (wantedY rfl rfl (decF (fun h => h c1112.out))) (fun _ => Runs.mv rfl rfl) ?_
                        refine OKS.r rfl rfl rfl (wantedY rfl rfl (decF (fun h => h c1112.out))) (fun _ => Runs.len rfl rfl Try.runUnderlying38) ?_
                        refine OKS.r rfl rfl rfl (wantedY rfl rfl (decF (fun h => h c1112.out))) (fun _ => Runs.mv rfl f1067) ?_
                        refine OKS.r rfl rfl rfl (wantedY rfl rfl (decF (fun h => h c1112.out))) (fun _ => Runs.neq rfl rfl rfl) ?_
                        refine OKS.r rfl rfl rfl rfl (fun _ => Runs.pickF rfl (decF (fun h => h c1112.out)) rfl) ?_
                        refine OKS.e ?_
                        refine thenQ_n ?_
                        by_cases c1114 : (↑x1098.length : Int) = (↑x16.length : Int)
                        · have hm1115 := hm1113; rw [if_pos c1114] at hm1115; replace c1114 := Hid.mk c1114
                          refine CK.condF (decF (fun h => h c1114.out)) ?_
                          refine CK.skip ?_
                          refine thenQ_n ?_
                          refine CK.seq ?_
                          refine CK.reg (ks := []) (.fl 0 (.fl 1 (.nil))) rfl ?_
                          refine OKS.r rfl rfl rfl rfl (fun _ => Runs.mv rfl f1067) ?_
                          refine OKS.r rfl rfl rfl rfl (fun _ => Runs.mv rfl rfl) ?_
                          refine OKS.e ?_
                          refine thenQ_n ?_
                          refine CK.block ?_
                          obtain ⟨r1119, hX1120⟩ := jn_some hm1115
                          obtain ⟨hle1121, hf1122⟩ := forR_le hX1120
                          replace hle1121 := Hid.mk hle1121
                          refine CK.forN (fun k1118 _ σ_ w_ => ∃ (φ_ : PHeap), σ_ 191 = .int .i64 (↑k1118 : Int) ∧ σ_ 6 = .slice A29 x17.length c30 ∧ σ_ 9 = .slice A68 y121.length c69 ∧ σ_ 10 = .slice A730 y122.length c731 ∧ σ_ 13 = .slice A863 y791.length c864 ∧ σ_ 14 = .slice A891 x895.length c892 ∧ σ_ 15 = .slice A922 x912.length c923 ∧ σ_ 22 = .slice A1108 x1098.length c1109 ∧ σ_ 190 = .int .i64 (↑x16.length : Int) ∧ PHeap.Le φ1102 φ_ ∧ St ⟨w, [], φ⟩ φ_ [.blk b48 134 [.slice A861 y788.length c862, .int .i64 y789, .int .u32 y790], .blk b10 134 [.slice A31 x18.bytes.length c32, .int .i64 x18.next, .int .u32 x18.state], .row A891 c892 3 1 (List.flatMap encI x895), .row A922 c923 31 2 (List.flatMap encT_api_Span x912), .row A1108 c1109 31 2 (List.flatMap encT_api_Span x1098)] w_) hf1122 ?_ ?_ ?_
                          · exact ⟨φ1102, rfl, f1066, f1068, f1069, f1070, f1071, f1072, rfl, rfl, (PHeap.Le.refl _), (hS1111.pick [1, 2, 3, 4, 0] _ (by decide) rfl)⟩
                          · rintro k1118 ⟨⟩ xx1125 σ1123 W1124 hk1128 ⟨φ1130, fi1129, f1133, f1134, f1135, f1136, f1137, f1138, f1139, f1140, le1131, hS1132⟩ hx1126 hb1127
                            try dsimp only at hx1126
                            have c1141 : Hid ((↑k1118 : Int) < (↑x16.length : Int)) := Hid.mk (lp_lt0 hk1128)
                            replace hk1128 := Hid.mk hk1128
                            have hi1142 : Hid (w64 ((↑k1118 : Int) + 1) = (↑(k1118 + 1) : Int)) := Hid.mk (by have h1 := hle1121.out; have h2 := c1141.out; rw [w64_in] <;> omega)
                            refine CK.seq ?_
                            refine CK.reg (ks := []) (.fl 0 (.nil)) rfl ?_
                            refine OKS.r rfl rfl rfl rfl (fun _ => Runs.lss rfl fi1129 f1140) ?_
                            refine OKS.e ?_
                            refine thenQ_n ?_
                            refine CK.seq ?_
                            refine CK.condT (decT c1141.out) ?_
                            refine CK.skip ?_
                            refine thenQ_n ?_
                            refine CK.seq ?_
                            refine CK.block ?_
                            refine CK.seq ?_
                            refine CK.reg (ks := []) (.fl 0 (.fl 1 (.nil))) rfl ?_
                            refine OKS.r rfl rfl rfl rfl (fun _ => Runs.mv rfl fi1129) ?_
                            refine OKS.r rfl rfl rfl rfl (fun _ => Runs.as rfl rfl) ?_
                            refine OKS.e ?_
                            refine thenQ_n ?_
                            refine CK.seq ?_
                            refine CK.anyOrd Try.mixed [3, 3, 3, 1, 3, 3, 3, 1, 2, 3] (.fl 0 (.fl 1 (.fl 2 (.fl 3 (.fl 4 (.fl 5 (.fl 6 (.fl 7 (.fx 8 (.fl 9 (.nil)) .stop))))))))) (by kernel_rfl) ?_
                            have hS1143 := hS1132.drew
                            generalize hw_W1144 : ({ W1124 with drawn := W1124.drawn + 1 } : World) = W1144 at hS1143 ⊢
                            refine OKS.r rfl rfl rfl rfl (fun _ => Runs.mv rfl f1139) ?_
                            refine OKS.r rfl rfl rfl rfl (fun _ => Runs.mv rfl rfl) ?_
                            obtain ⟨_, h1145, hm1146⟩ := bnd hx1126
                            obtain ⟨b1147, hA1148⟩ := hS1143.rowSome (j := 4) rfl (by rw [flatMap_len (f := encT_api_Span) (sz := 2) (fun _ => rfl) x1098]; have hz := chk_lt h1145; omega)
                            refine OKS.r rfl rfl rfl rfl (fun _ => Runs.iaN rfl rfl hA1148 rfl Try.runUnderlying38 Try.sizeOf31 (chk_lt h1145)) ?_
                            have hg1149 := gd_at (xs := x1098) (chk_lt h1145)
                            refine OKS.m rfl rfl rfl rfl (hS1143.ldRA (j := 4) rfl hA1148 rfl rfl Try.isAgg31 Try.sizeOf31 (vs := [.int .i64 ((gd x1098 k1118).Lo), .int .i64 ((gd x1098 k1118).Hi)]) (flatMap_sub (sz := 2) (fun _ => rfl) _ _ _ hg1149 (by omega) rfl) rfl) rfl ?_
                            refine OKS.r rfl rfl rfl rfl (fun _ => Runs.mv rfl f1138) ?_
                            refine OKS.r rfl rfl rfl rfl (fun _ => Runs.mv rfl rfl) ?_
                            obtain ⟨_, h1150, hm1151⟩ := bnd hm1146
                            obtain ⟨b1152, hA1153⟩ := hS1143.rowSome (j := 3) rfl (by rw [flatMap_len (f := encT_api_Span) (sz := 2) (fun _ => rfl) x912]; have hz := chk_lt h1150; omega)
                            refine OKS.r rfl rfl rfl rfl (fun _ => Runs.iaN rfl rfl hA1153 rfl Try.runUnderlying38 Try.sizeOf31 (chk_lt h1150)) ?_
                            have hg1154 := gd_at (xs := x912) (chk_lt h1150)
                            refine OKS.m rfl rfl rfl rfl (hS1143.ldRA (j := 3) rfl hA1153 rfl rfl Try.isAgg31 Try.sizeOf31 (vs := [.int .i64 ((gd x912 k1118).Lo), .int .i64 ((gd x912 k1118).Hi)]) (flatMap_sub (sz := 2) (fun _ => rfl) _ _ _ hg1154 (by omega) rfl) rfl) rfl ?_
                            obtain ⟨x1155, h1156, hm1157⟩ := bnd hm1151
                            refine OKS.callH 0 rfl rfl rfl rfl (Enters.mk rfl rfl Try.call22 (mapcons rfl (mapcons rfl mapnil)) rfl) hS1143 (fun hs => w_klisterlaw03_wide (gd x1098 k1118) (gd x912 k1118) W1144 φ1130 hs h1156) (.inr rfl) ?_
                            rintro φ1158 L1159 v1160 W1161 le1162 hS1163 ⟨rfl, rfl⟩
                            have hS1164 : St ⟨w, [], φ⟩ φ1158 [.blk b48 134 [.slice A861 y788.length c862, .int .i64 y789, .int .u32 y790], .blk b10 134 [.slice A31 x18.bytes.length c32, .int .i64 x18.next, .int .u32 x18.state], .row A891 c892 3 1 (List.flatMap encI x895), .row A922 c923 31 2 (List.flatMap encT_api_Span x912), .row A1108 c1109 31 2 (List.flatMap encT_api_Span x1098)] W1161 := hS1163
                            refine OKS.r rfl rfl rfl rfl (fun _ => Runs.notT rfl rfl) ?_
                            refine OKS.e ?_
                            refine thenQ_n ?_
                            by_cases c1165 : x1155 = true
                            · have hm1166 := hm1157; rw [if_pos c1165] at hm1166; replace c1165 := Hid.mk c1165
                              refine CK.condF (congrArg (fun b => Value.bool (!b)) c1165.out) ?_
                              refine CK.skip ?_
                              refine blockQ_n ?_
                              refine thenQ_n ?_
                              refine CK.reg (ks := []) (.fl 0 (.fl 1 (.nil))) rfl ?_
                              refine OKS.r rfl rfl rfl rfl (fun _ => Runs.to (Runs.addw rfl fi1129 rfl) (congrArg (Value.int .i64) hi1142.out)) ?_
                              refine OKS.r rfl rfl rfl rfl (fun _ => Runs.mv rfl rfl) ?_
                              refine OKS.e ?_
                              obtain rfl := Option.some.inj hm1166
                              exact thenQ_n ⟨rfl, _, rfl, ⟨φ1158, rfl, f1133, f1134, f1135, f1136, f1137, f1138, f1139, f1140, (le1131.trans le1162), hS1164⟩⟩
                            · have hm1167 := hm1157; rw [if_neg c1165] at hm1167; replace c1165 := Hid.mk c1165
                              refine CK.condT (congrArg (fun b => Value.bool (!b)) (Bool.eq_false_iff.2 c1165.out)) ?_
                              refine CK.seq ?_
                              refine CK.reg (ks := []) (.fl 0 (.nil)) rfl ?_
                              refine OKS.r rfl rfl rfl rfl (fun _ => Runs.as rfl rfl) ?_
                              refine OKS.e ?_
                              refine thenQ_n ?_
                              refine CK.ret ?_
                              refine blockQ_r ?_
                              refine thenQ_r ?_
                              obtain ⟨v1168, hm1169, e1170⟩ := esc_spec hm1167
                              obtain rfl := jn_inr hm1115 hX1120 (hb1127 v1168 e1170)
                              refine thenQ_r ?_
                              refine blockQ_r ?_
                              refine thenQ_r ?_
                              cases hm1169
                              exact ⟨rfl, _, (res1 rfl), φ1158, _, (hS1164.pick [] _ (by decide) rfl), rfl, rfl⟩
                          · rintro ⟨⟩ σ1171 W1172 ⟨φ1175, fi1174, f1178, f1179, f1180, f1181, f1182, f1183, f1184, f1185, le1176, hS1177⟩ hb1173
                            have hm1186 := jn_inl hm1115 hX1120 hb1173
                            try dsimp only at hm1186
                            have c1187 : Hid (¬ ((↑(((↑x16.length : Int) : Int) - 0).toNat : Int) < (↑x16.length : Int))) := Hid.mk (lp_end0)
                            refine CK.seq ?_
                            refine CK.reg (ks := []) (.fl 0 (.nil)) rfl ?_
                            refine OKS.r rfl rfl rfl rfl (fun _ => Runs.lss rfl fi1174 f1185) ?_
                            refine OKS.e ?_
                            refine thenQ_n ?_
                            refine CK.seq ?_
                            refine CK.condF (decF c1187.out) ?_
                            refine CK.exit ?_
                            refine thenQ_e ?_
                            refine thenQ_e ?_
                            refine blockQ_h ?_
                            refine thenQ_n ?_
                            refine CK.seq ?_
                            refine CK.reg (ks := []) (.fl 0 (.fl 1 (.fx 2 (.fl 3 (.fl 4 (.fl 5 (.fl 6 (.fl 7 (.nil)))))) .stop))) rfl ?_
                            refine OKS.r rfl rfl rfl rfl (fun _ => Runs.mv rfl f1181) ?_
                            refine OKS.r rfl rfl rfl rfl (fun _ => Runs.mv rfl f1178) ?_
                            have h1188 := hs879.le le889
                            have h1189 := h1188.le le902
                            have h1190 := h1189.le le920
                            have h1191 := h1190.le le927
                            have h1192 := h1191.le le939
                            have h1193 := h1192.le le946
                            have h1194 := h1193.le le958
                            have h1195 := h1194.le le1064
                            have h1196 := h1195.le le1106
                            have h1197 := h1196.le le1176
                            have h1198 := h1097.le le1106
                            have h1199 := h1198.le le1176
                            obtain ⟨⟨x1200, x1201⟩, h1202, hm1203⟩ := bnd hm1186
                            try dsimp only at hm1203
                            refine OKS.callH 0 rfl rfl rfl rfl (Enters.mk rfl rfl Try.call23 (mapcons rfl (mapcons rfl mapnil)) rfl) hS1177 (fun hs => w_target_Few y791 A863 c864 x17 A29 c30 W1172 φ1175 hs h1197 h1199 h1202) (.inr rfl) ?_
                            rintro φ1204 L1205 v1206 W1207 le1208 hS1209 ⟨rfl, rfl⟩
                            have hS1210 : St ⟨w, [], φ⟩ φ1204 [.blk b48 134 [.slice A861 y788.length c862, .int .i64 y789, .int .u32 y790], .blk b10 134 [.slice A31 x18.bytes.length c32, .int .i64 x18.next, .int .u32 x18.state], .row A891 c892 3 1 (List.flatMap encI x895), .row A922 c923 31 2 (List.flatMap encT_api_Span x912), .row A1108 c1109 31 2 (List.flatMap encT_api_Span x1098)] W1207 := hS1209
                            refine OKS.r rfl rfl rfl rfl (fun _ => Runs.mv rfl rfl) ?_
                            refine OKS.r rfl rfl rfl rfl (fun _ => Runs.ext rfl rfl (v := .bool x1200) rfl) ?_
                            refine OKS.r rfl rfl rfl rfl (fun _ => Runs.ext rfl rfl (v := .int .i64 x1201) rfl) ?_
                            refine OKS.r rfl rfl rfl rfl (fun _ => Runs.as rfl rfl) ?_
                            refine OKS.r rfl rfl rfl rfl (fun _ => Runs.as rfl rfl) ?_
                            refine OKS.e ?_
                            refine thenQ_n ?_
                            refine CK.seq ?_
                            refine CK.reg (ks := []) (.fl 0 (.fl 1 (.fx 2 (.fl 3 (.fl 4 (.fl 5 (.fl 6 (.fl 7 (.nil)))))) .stop))) rfl ?_
                            refine OKS.r rfl rfl rfl rfl (fun _ => Runs.mv rfl f1181) ?_
                            refine OKS.r rfl rfl rfl rfl (fun _ => Runs.mv rfl f1179) ?_
                            have h1211 := h1197.le le1208
                            have h1212 := hs928.le le939
                            have h1213 := h1212.le le946
                            have h1214 := h1213.le le958
                            have h1215 := h1214.le le1064
                            have h1216 := h1215.le le1106
                            have h1217 := h1216.le le1176
                            have h1218 := h1217.le le1208
                            obtain ⟨⟨x1219, x1220⟩, h1221, hm1222⟩ := bnd hm1203
                            try dsimp only at hm1222
                            refine OKS.callH 0 rfl rfl rfl rfl (Enters.mk rfl rfl Try.call23 (mapcons rfl (mapcons rfl mapnil)) rfl) hS1210 (fun hs => w_target_Few y791 A863 c864 y121 A68 c69 W1207 φ1204 hs h1211 h1218 h1221) (.inr rfl) ?_
                            rintro φ1223 L1224 v1225 W1226 le1227 hS1228 ⟨rfl, rfl⟩
                            have hS1229 : St ⟨w, [], φ⟩ φ1223 [.blk b48 134 [.slice A861 y788.length c862, .int .i64 y789, .int .u32 y790], .blk b10 134 [.slice A31 x18.bytes.length c32, .int .i64 x18.next, .int .u32 x18.state], .row A891 c892 3 1 (List.flatMap encI x895), .row A922 c923 31 2 (List.flatMap encT_api_Span x912), .row A1108 c1109 31 2 (List.flatMap encT_api_Span x1098)] W1226 := hS1228
                            refine OKS.r rfl rfl rfl rfl (fun _ => Runs.mv rfl rfl) ?_
                            refine OKS.r rfl rfl rfl rfl (fun _ => Runs.ext rfl rfl (v := .bool x1219) rfl) ?_
                            refine OKS.r rfl rfl rfl rfl (fun _ => Runs.ext rfl rfl (v := .int .i64 x1220) rfl) ?_
                            refine OKS.r rfl rfl rfl rfl (fun _ => Runs.as rfl rfl) ?_
                            refine OKS.r rfl rfl rfl rfl (fun _ => Runs.as rfl rfl) ?_
                            refine OKS.e ?_
                            refine thenQ_n ?_
                            refine CK.seq ?_
                            refine CK.reg (ks := []) (.fl 0 (.fl 1 (.fx 2 (.fl 3 (.fl 4 (.fl 5 (.fl 6 (.fl 7 (.nil)))))) .stop))) rfl ?_
                            refine OKS.r rfl rfl rfl rfl (fun _ => Runs.mv rfl f1182) ?_
                            refine OKS.r rfl rfl rfl rfl (fun _ => Runs.mv rfl f1180) ?_
                            obtain ⟨φ1230, le1231, hs1232, hS1233⟩ := hS1229.freezeR (k := 2) (n := x895.length) rfl (flatMap_len (f := encI) (sz := 1) (fun _ => rfl) x895) (by decide)
                            have hS1234 : St ⟨w, [], φ⟩ φ1230 [.blk b48 134 [.slice A861 y788.length c862, .int .i64 y789, .int .u32 y790], .blk b10 134 [.slice A31 x18.bytes.length c32, .int .i64 x18.next, .int .u32 x18.state], .row A922 c923 31 2 (List.flatMap encT_api_Span x912), .row A1108 c1109 31 2 (List.flatMap encT_api_Span x1098)] W1226 := hS1233
                            have h1235 := hs947.le le958
                            have h1236 := h1235.le le1064
                            have h1237 := h1236.le le1106
                            have h1238 := h1237.le le1176
                            have h1239 := h1238.le le1208
                            have h1240 := h1239.le le1227
                            have h1241 := h1240.le le1231
                            obtain ⟨⟨x1242, x1243⟩, h1244, hm1245⟩ := bnd hm1222
                            try dsimp only at hm1245
                            refine OKS.callH 0 rfl rfl rfl rfl (Enters.mk rfl rfl Try.call23 (mapcons rfl (mapcons rfl mapnil)) rfl) hS1234 (fun hs => w_target_Few x895 A891 c892 y122 A730 c731 W1226 φ1230 hs hs1232 h1241 h1244) (.inr rfl) ?_
                            rintro φ1246 L1247 v1248 W1249 le1250 hS1251 ⟨rfl, rfl⟩
                            have hS1252 : St ⟨w, [], φ⟩ φ1246 [.blk b48 134 [.slice A861 y788.length c862, .int .i64 y789, .int .u32 y790], .blk b10 134 [.slice A31 x18.bytes.length c32, .int .i64 x18.next, .int .u32 x18.state], .row A922 c923 31 2 (List.flatMap encT_api_Span x912), .row A1108 c1109 31 2 (List.flatMap encT_api_Span x1098)] W1249 := hS1251
                            refine OKS.r rfl rfl rfl rfl (fun _ => Runs.mv rfl rfl) ?_
                            refine OKS.r rfl rfl rfl rfl (fun _ => Runs.ext rfl rfl (v := .bool x1242) rfl) ?_
                            refine OKS.r rfl rfl rfl rfl (fun _ => Runs.ext rfl rfl (v := .int .i64 x1243) rfl) ?_
                            refine OKS.r rfl rfl rfl rfl (fun _ => Runs.as rfl rfl) ?_
                            refine OKS.r rfl rfl rfl rfl (fun _ => Runs.as rfl rfl) ?_
                            refine OKS.e ?_
                            refine thenQ_n ?_
                            refine CK.seq ?_
                            refine CK.fresh fun σ1253 hσ1254 => ?_
                            have f1255 : σ1253 16 = .int .i64 x1201 := (hσ1254 16).trans rfl
                            have f1256 : σ1253 18 = .int .i64 x1220 := (hσ1254 18).trans rfl
                            have f1257 : σ1253 20 = .int .i64 x1243 := (hσ1254 20).trans rfl
                            have f1258 : σ1253 25 = .bool x1200 := (hσ1254 25).trans rfl
                            have f1259 : σ1253 26 = .bool x1219 := (hσ1254 26).trans rfl
                            have f1260 : σ1253 27 = .bool x1242 := (hσ1254 27).trans rfl
                            clear hσ1254
                            refine CK.reg (ks := []) (.fl 0 (.fl 1 (.fl 2 (.fl 3 (.fl 4 (.fl 5 (.fl 6 (.fl 7 (.fl 8 (.fl 9 (.fl 10 (.fl 11 (.fl 12 (.fl 13 (.fl 14 (.fl 15 (.fl 16 (.fl 17 (.fl 18 (.fl 19 (.fl 20 (.fl 21 (.fl 22 (.fx 23 (.fl 24 (.fl 25 (.nil))) .stop)))))))))))))))))))))))) rfl ?_
                            refine OKS.r rfl rfl rfl rfl (fun _ => Runs.mv rfl f1255) ?_
                            refine OKS.r rfl rfl rfl rfl (fun _ => Runs.eql rfl rfl rfl) ?_
                            refine OKS.r rfl rfl rfl rfl (fun _ => Runs.mv rfl rfl) ?_
                            by_cases c1261 : x1201 = 0
                            · have hm1262 := hm1245; rw [if_pos c1261] at hm1262; replace c1261 := Hid.mk c1261
                              refine OKS.r rfl rfl rfl (wantedY rfl rfl (decT c1261.out)) (fun _ => Runs.mv rfl f1256) ?_
                              refine OKS.r rfl rfl rfl (wantedY rfl rfl (decT c1261.out)) (fun _ => Runs.eql rfl rfl rfl) ?_
                              refine OKS.r rfl rfl rfl rfl (fun _ => Runs.pickT rfl (decT c1261.out) rfl) ?_
                              refine OKS.r rfl rfl rfl rfl (fun _ => Runs.mv rfl rfl) ?_
                              by_cases c1263 : x1220 = 0
                              · have hm1264 := hm1262; rw [if_pos c1263] at hm1264; replace c1263 := Hid.mk c1263
                                refine OKS.r rfl rfl rfl (wantedY rfl rfl (decT c1263.out)) (fun _ => Runs.mv rfl f1257) ?_
                                refine OKS.r rfl rfl rfl (wantedY rfl rfl (decT c1263.out)) (fun _ => Runs.eql rfl rfl rfl) ?_
                                refine OKS.r rfl rfl rfl rfl (fun _ => Runs.pickT rfl (decT c1263.out) rfl) ?_
                                refine OKS.r rfl rfl rfl rfl (fun _ => Runs.mv rfl rfl) ?_
                                by_cases c1265 : x1243 = 0
                                · have hm1266 := hm1264; rw [if_pos c1265] at hm1266; replace c1265 := Hid.mk c1265
                                  refine OKS.r rfl rfl rfl (wantedY rfl rfl (decT c1265.out)) (fun _ => Runs.mv rfl f1258) ?_
                                  refine OKS.r rfl rfl rfl (wantedY rfl rfl (decT c1265.out)) (fun _ => Runs.mv rfl rfl) ?_
                                  by_cases c1267 : x1200 = true
                                  · have hm1268 := hm1266; rw [if_pos c1267] at hm1268; replace c1267 := Hid.mk c1267
                                    refine OKS.p rfl rfl rfl (wantedN rfl rfl (congrArg Value.bool c1267.out) rfl) ?_
                                    refine OKS.p rfl rfl rfl (wantedN rfl rfl (congrArg Value.bool c1267.out) rfl) ?_
                                    refine OKS.r rfl rfl rfl (wantedY rfl rfl (decT c1265.out)) (fun _ => Runs.pickT rfl (congrArg Value.bool c1267.out) rfl) ?_
                                    refine OKS.r rfl rfl rfl rfl (fun _ => Runs.pickT rfl (decT c1265.out) rfl) ?_
                                    refine OKS.r rfl rfl rfl rfl (fun _ => Runs.mv rfl rfl) ?_
                                    refine OKS.r rfl rfl rfl (wantedY rfl rfl rfl) (fun _ => Runs.mv rfl f1258) ?_
                                    refine OKS.r rfl rfl rfl (wantedY rfl rfl rfl) (fun _ => Runs.mv rfl f1260) ?_
                                    refine OKS.r rfl rfl rfl (wantedY rfl rfl rfl) (fun _ => Runs.eqB rfl rfl rfl Try.runUnderlying4) ?_
                                    refine OKS.r rfl rfl rfl rfl (fun _ => Runs.pickT rfl rfl rfl) ?_
                                    refine OKS.r rfl rfl rfl rfl (fun _ => Runs.mv rfl rfl) ?_
                                    by_cases c1269 : (x1200 == x1242) = true
                                    · have hm1270 := hm1268; rw [if_pos c1269] at hm1270; replace c1269 := Hid.mk c1269
                                      obtain ⟨x1271, h1272, hm1273⟩ := bnd hm1270
                                      refine OKS.callH 0 rfl rfl rfl (wantedY rfl rfl (congrArg Value.bool c1269.out)) (Enters.mk rfl rfl Try.call24 mapnil rfl) hS1252 (fun hs => w_klisterlaw03_awake W1249 φ1246 hs h1272) (.inr rfl) ?_
                                      rintro φ1274 L1275 v1276 W1277 le1278 hS1279 ⟨rfl, rfl⟩
                                      have hS1280 : St ⟨w, [], φ⟩ φ1274 [.blk b48 134 [.slice A861 y788.length c862, .int .i64 y789, .int .u32 y790], .blk b10 134 [.slice A31 x18.bytes.length c32, .int .i64 x18.next, .int .u32 x18.state], .row A922 c923 31 2 (List.flatMap encT_api_Span x912), .row A1108 c1109 31 2 (List.flatMap encT_api_Span x1098)] W1277 := hS1279
                                      refine OKS.r rfl rfl rfl rfl (fun _ => Runs.pickT rfl (congrArg Value.bool c1269.out) rfl) ?_
                                      refine OKS.r rfl rfl rfl rfl (fun _ => Runs.as rfl rfl) ?_
                                      refine OKS.e ?_
                                      refine thenQ_n ?_
                                      refine CK.ret ?_
                                      cases hm1273
                                      exact ⟨rfl, _, (res1 rfl), φ1274, _, (hS1280.pick [] _ (by decide) rfl), rfl, rfl⟩
                                    · have hm1281 := hm1268; rw [if_neg c1269] at hm1281; replace c1269 := Hid.mk c1269
                                      refine OKS.px rfl rfl rfl (wantedN rfl rfl (congrArg Value.bool (Bool.eq_false_iff.2 c1269.out)) rfl) ?_
                                      refine OKS.r rfl rfl rfl rfl (fun _ => Runs.pickF rfl (congrArg Value.bool (Bool.eq_false_iff.2 c1269.out)) rfl) ?_
                                      refine OKS.r rfl rfl rfl rfl (fun _ => Runs.as rfl rfl) ?_
                                      refine OKS.e ?_
                                      refine thenQ_n ?_
                                      refine CK.ret ?_
                                      cases hm1281
                                      exact ⟨rfl, _, (res1 rfl), φ1246, _, (hS1252.pick [] _ (by decide) rfl), rfl, rfl⟩
                                  · have hm1282 := hm1266; rw [if_neg c1267] at hm1282; replace c1267 := Hid.mk c1267
                                    refine OKS.r rfl rfl rfl (wantedY rfl rfl (congrArg Value.bool (Bool.eq_false_iff.2 c1267.out))) (fun _ => Runs.mv rfl f1259) ?_
                                    refine OKS.r rfl rfl rfl (wantedY rfl rfl (congrArg Value.bool (Bool.eq_false_iff.2 c1267.out))) (fun _ => Runs.notT rfl rfl) ?_
                                    refine OKS.r rfl rfl rfl (wantedY rfl rfl (decT c1265.out)) (fun _ => Runs.pickF rfl (congrArg Value.bool (Bool.eq_false_iff.2 c1267.out)) rfl) ?_
                                    refine OKS.r rfl rfl rfl rfl (fun _ => Runs.pickT rfl (decT c1265.out) rfl) ?_
                                    refine OKS.r rfl rfl rfl rfl (fun _ => Runs.mv rfl rfl) ?_
                                    by_cases c1283 : x1219 = true
                                    · have hm1284 := hm1282; rw [if_pos c1283] at hm1284; replace c1283 := Hid.mk c1283
                                      refine OKS.p rfl rfl rfl (wantedN rfl rfl (congrArg (fun b => Value.bool (!b)) c1283.out) rfl) ?_
                                      refine OKS.p rfl rfl rfl (wantedN rfl rfl (congrArg (fun b => Value.bool (!b)) c1283.out) rfl) ?_
                                      refine OKS.p rfl rfl rfl (wantedN rfl rfl (congrArg (fun b => Value.bool (!b)) c1283.out) rfl) ?_
                                      refine OKS.r rfl rfl rfl rfl (fun _ => Runs.pickF rfl (congrArg (fun b => Value.bool (!b)) c1283.out) rfl) ?_
                                      refine OKS.r rfl rfl rfl rfl (fun _ => Runs.mv rfl rfl) ?_
                                      refine OKS.px rfl rfl rfl (wantedN rfl rfl rfl rfl) ?_
                                      refine OKS.r rfl rfl rfl rfl (fun _ => Runs.pickF rfl rfl rfl) ?_
                                      refine OKS.r rfl rfl rfl rfl (fun _ => Runs.as rfl rfl) ?_
                                      refine OKS.e ?_
                                      refine thenQ_n ?_
                                      refine CK.ret ?_
                                      cases hm1284
                                      exact ⟨rfl, _, (res1 rfl), φ1246, _, (hS1252.pick [] _ (by decide) rfl), rfl, rfl⟩
                                    · have hm1285 := hm1282; rw [if_neg c1283] at hm1285; replace c1283 := Hid.mk c1283
                                      refine OKS.r rfl rfl rfl (wantedY rfl rfl (congrArg (fun b => Value.bool (!b)) (Bool.eq_false_iff.2 c1283.out))) (fun _ => Runs.mv rfl f1258) ?_
                                      refine OKS.r rfl rfl rfl (wantedY rfl rfl (congrArg (fun b => Value.bool (!b)) (Bool.eq_false_iff.2 c1283.out))) (fun _ => Runs.mv rfl f1260) ?_
                                      refine OKS.r rfl rfl rfl (wantedY rfl rfl (congrArg (fun b => Value.bool (!b)) (Bool.eq_false_iff.2 c1283.out))) (fun _ => Runs.eqB rfl rfl rfl Try.runUnderlying4) ?_
                                      refine OKS.r rfl rfl rfl rfl (fun _ => Runs.pickT rfl (congrArg (fun b => Value.bool (!b)) (Bool.eq_false_iff.2 c1283.out)) rfl) ?_
                                      refine OKS.r rfl rfl rfl rfl (fun _ => Runs.mv rfl rfl) ?_
                                      by_cases c1286 : (x1200 == x1242) = true
                                      · have hm1287 := hm1285; rw [if_pos c1286] at hm1287; replace c1286 := Hid.mk c1286
                                        obtain ⟨x1288, h1289, hm1290⟩ := bnd hm1287
                                        refine OKS.callH 0 rfl rfl rfl (wantedY rfl rfl (congrArg Value.bool c1286.out)) (Enters.mk rfl rfl Try.call24 mapnil rfl) hS1252 (fun hs => w_klisterlaw03_awake W1249 φ1246 hs h1289) (.inr rfl) ?_
                                        rintro φ1291 L1292 v1293 W1294 le1295 hS1296 ⟨rfl, rfl⟩
                                        have hS1297 : St ⟨w, [], φ⟩ φ1291 [.blk b48 134 [.slice A861 y788.length c862, .int .i64 y789, .int .u32 y790], .blk b10 134 [.slice A31 x18.bytes.length c32, .int .i64 x18.next, .int .u32 x18.state], .row A922 c923 31 2 (List.flatMap encT_api_Span x912), .row A1108 c1109 31 2 (List.flatMap encT_api_Span x1098)] W1294 := hS1296
                                        refine OKS.r rfl rfl rfl rfl (fun _ => Runs.pickT rfl (congrArg Value.bool c1286.out) rfl) ?_
                                        refine OKS.r rfl rfl rfl rfl (fun _ => Runs.as rfl rfl) ?_
                                        refine OKS.e ?_
                                        refine thenQ_n ?_
                                        refine CK.ret ?_
                                        cases hm1290
                                        exact ⟨rfl, _, (res1 rfl), φ1291, _, (hS1297.pick [] _ (by decide) rfl), rfl, rfl⟩
                                      · have hm1298 := hm1285; rw [if_neg c1286] at hm1298; replace c1286 := Hid.mk c1286
                                        refine OKS.px rfl rfl rfl (wantedN rfl rfl (congrArg Value.bool (Bool.eq_false_iff.2 c1286.out)) rfl) ?_
                                        refine OKS.r rfl rfl rfl rfl (fun _ => Runs.pickF rfl (congrArg Value.bool (Bool.eq_false_iff.2 c1286.out)) rfl) ?_
                                        refine OKS.r rfl rfl rfl rfl (fun _ => Runs.as rfl rfl) ?_
                                        refine OKS.e ?_
                                        refine thenQ_n ?_
                                        refine CK.ret ?_
                                        cases hm1298
                                        exact ⟨rfl, _, (res1 rfl), φ1246, _, (hS1252.pick [] _ (by decide) rfl), rfl, rfl⟩
                                · have hm1299 := hm1264; rw [if_neg c1265] at hm1299; replace c1265 := Hid.mk c1265
                                  refine OKS.p rfl rfl rfl (wantedN rfl rfl (decF c1265.out) rfl) ?_
                                  refine OKS.p rfl rfl rfl (wantedN rfl rfl (decF c1265.out) rfl) ?_
                                  refine OKS.p rfl rfl rfl (wantedU rfl rfl rfl) ?_
                                  refine OKS.p rfl rfl rfl (wantedU rfl rfl rfl) ?_
                                  refine OKS.p rfl rfl rfl (wantedN rfl rfl (decF c1265.out) rfl) ?_
                                  refine OKS.r rfl rfl rfl rfl (fun _ => Runs.pickF rfl (decF c1265.out) rfl) ?_
                                  refine OKS.r rfl rfl rfl rfl (fun _ => Runs.mv rfl rfl) ?_
                                  refine OKS.p rfl rfl rfl (wantedN rfl rfl rfl rfl) ?_
                                  refine OKS.p rfl rfl rfl (wantedN rfl rfl rfl rfl) ?_
                                  refine OKS.p rfl rfl rfl (wantedN rfl rfl rfl rfl) ?_
                                  refine OKS.r rfl rfl rfl rfl (fun _ => Runs.pickF rfl rfl rfl) ?_
                                  refine OKS.r rfl rfl rfl rfl (fun _ => Runs.mv rfl rfl) ?_
                                  refine OKS.px rfl rfl rfl (wantedN rfl rfl rfl rfl) ?_
                                  refine OKS.r rfl rfl rfl rfl (fun _ => Runs.pickF rfl rfl rfl) ?_
                                  refine OKS.r rfl rfl rfl rfl (fun _ => Runs.as rfl rfl) ?_
                                  refine OKS.e ?_
                                  refine thenQ_n ?_
                                  refine CK.ret ?_
                                  cases hm1299
                                  exact ⟨rfl, _, (res1 rfl), φ1246, _, (hS1252.pick [] _ (by decide) rfl), rfl, rfl⟩
                              · have hm1300 := hm1262; rw [if_neg c1263] at hm1300; replace c1263 := Hid.mk c1263
                                refine OKS.p rfl rfl rfl (wantedN rfl rfl (decF c1263.out) rfl) ?_
                                refine OKS.p rfl rfl rfl (wantedN rfl rfl (decF c1263.out) rfl) ?_
                                refine OKS.r rfl rfl rfl rfl (fun _ => Runs.pickF rfl (decF c1263.out) rfl) ?_
                                refine OKS.r rfl rfl rfl rfl (fun _ => Runs.mv rfl rfl) ?_
                                refine OKS.p rfl rfl rfl (wantedN rfl rfl rfl rfl) ?_
                                refine OKS.p rfl rfl rfl (wantedN rfl rfl rfl rfl) ?_
                                refine OKS.p rfl rfl rfl (wantedU rfl rfl rfl) ?_
                                refine OKS.p rfl rfl rfl (wantedU rfl rfl rfl) ?_
                                refine OKS.p rfl rfl rfl (wantedN rfl rfl rfl rfl) ?_
                                refine OKS.r rfl rfl rfl rfl (fun _ => Runs.pickF rfl rfl rfl) ?_
                                refine OKS.r rfl rfl rfl rfl (fun _ => Runs.mv rfl rfl) ?_
                                refine OKS.p rfl rfl rfl (wantedN rfl rfl rfl rfl) ?_
                                refine OKS.p rfl rfl rfl (wantedN rfl rfl rfl rfl) ?_
                                refine OKS.p rfl rfl rfl (wantedN rfl rfl rfl rfl) ?_
                                refine OKS.r rfl rfl rfl rfl (fun _ => Runs.pickF rfl rfl rfl) ?_
                                refine OKS.r rfl rfl rfl rfl (fun _ => Runs.mv rfl rfl) ?_
                                refine OKS.px rfl rfl rfl (wantedN rfl rfl rfl rfl) ?_
                                refine OKS.r rfl rfl rfl rfl (fun _ => Runs.pickF rfl rfl rfl) ?_
                                refine OKS.r rfl rfl rfl rfl (fun _ => Runs.as rfl rfl) ?_
                                refine OKS.e ?_
                                refine thenQ_n ?_
                                refine CK.ret ?_
                                cases hm1300
                                exact ⟨rfl, _, (res1 rfl), φ1246, _, (hS1252.pick [] _ (by decide) rfl), rfl, rfl⟩
                            · have hm1301 := hm1245; rw [if_neg c1261] at hm1301; replace c1261 := Hid.mk c1261
                              refine OKS.p rfl rfl rfl (wantedN rfl rfl (decF c1261.out) rfl) ?_
                              refine OKS.p rfl rfl rfl (wantedN rfl rfl (decF c1261.out) rfl) ?_
                              refine OKS.r rfl rfl rfl rfl (fun _ => Runs.pickF rfl (decF c1261.out) rfl) ?_
                              refine OKS.r rfl rfl rfl rfl (fun _ => Runs.mv rfl rfl) ?_
                              refine OKS.p rfl rfl rfl (wantedN rfl rfl rfl rfl) ?_
                              refine OKS.p rfl rfl rfl (wantedN rfl rfl rfl rfl) ?_
                              refine OKS.r rfl rfl rfl rfl (fun _ => Runs.pickF rfl rfl rfl) ?_
                              refine OKS.r rfl rfl rfl rfl (fun _ => Runs.mv rfl rfl) ?_
                              refine OKS.p rfl rfl rfl (wantedN rfl rfl rfl rfl) ?_
                              refine OKS.p rfl rfl rfl (wantedN rfl rfl rfl rfl) ?_
                              refine OKS.p rfl rfl rfl (wantedU rfl rfl rfl) ?_
                              refine OKS.p rfl rfl rfl (wantedU rfl rfl rfl) ?_
                              refine OKS.p rfl rfl rfl (wantedN rfl rfl rfl rfl) ?_
                              refine OKS.r rfl rfl rfl rfl (fun _ => Runs.pickF rfl rfl rfl) ?_
                              refine OKS.r rfl rfl rfl rfl (fun _ => Runs.mv rfl rfl) ?_
                              refine OKS.p rfl rfl rfl (wantedN rfl rfl rfl rfl) ?_
                              refine OKS.p rfl rfl rfl (wantedN rfl rfl rfl rfl) ?_
                              refine OKS.p rfl rfl rfl (wantedN rfl rfl rfl rfl) ?_
                              refine OKS.r rfl rfl rfl rfl (fun _ => Runs.pickF rfl rfl rfl) ?_
                              refine OKS.r rfl rfl rfl rfl (fun _ => Runs.mv rfl rfl) ?_
                              refine OKS.px rfl rfl rfl (wantedN rfl rfl rfl rfl) ?_
                              refine OKS.r rfl rfl rfl rfl (fun _ => Runs.pickF rfl rfl rfl) ?_
                              refine OKS.r rfl rfl rfl rfl (fun _ => Runs.as rfl rfl) ?_
                              refine OKS.e ?_
                              refine thenQ_n ?_
                              refine CK.ret ?_
                              cases hm1301
                              exact ⟨rfl, _, (res1 rfl), φ1246, _, (hS1252.pick [] _ (by decide) rfl), rfl, rfl⟩
                        · have hm1302 := hm1113; rw [if_neg c1114] at hm1302; replace c1114 := Hid.mk c1114
                          refine CK.condT (decT c1114.out) ?_
                          refine CK.seq ?_
                          refine CK.reg (ks := []) (.fl 0 (.nil)) rfl ?_
                          refine OKS.r rfl rfl rfl rfl (fun _ => Runs.as rfl rfl) ?_
                          refine OKS.e ?_
                          refine thenQ_n ?_
                          refine CK.ret ?_
                          refine thenQ_r ?_
                          refine thenQ_r ?_
                          cases hm1302
                          exact ⟨rfl, _, (res1 rfl), φ1102, _, (hS1111.pick [] _ (by decide) rfl), rfl, rfl⟩
                      · have hm1303 := hm1101; rw [if_neg c1112] at hm1303; replace c1112 := Hid.mk c1112
                        refine OKS.p rfl rfl rfl (wantedN rfl rfl (decT c1112.out) rfl) ?_
                        refine OKS.p rfl rfl rfl (wantedN rfl rfl (decT c1112.out) rfl) ?_
                        refine OKS.p rfl rfl rfl (wantedN rfl rfl (decT c1112.out) rfl) ?_
                        refine OKS.p rfl rfl rfl (wantedN rfl rfl (decT c1112.out) rfl) ?_
                        refine OKS.r rfl rfl rfl rfl (fun _ => Runs.pickT rfl (decT c1112.out) rfl) ?_
                        refine OKS.e ?_
                        refine thenQ_n ?_
                        refine CK.condT rfl ?_
                        refine CK.seq ?_
                        refine CK.reg (ks := []) (.fl 0 (.nil)) rfl ?_
                        refine OKS.r rfl rfl rfl rfl (fun _ => Runs.as rfl rfl) ?_
                        refine OKS.e ?_
                        refine thenQ_n ?_
                        refine CK.ret ?_
                        refine thenQ_r ?_
                        refine thenQ_r ?_
                        cases hm1303
                        exact ⟨rfl, _, (res1 rfl), φ1102, _, (hS1111.pick [] _ (by decide) rfl), rfl, rfl⟩
                    · have hm1304 := hm1076; rw [if_neg c1078] at hm1304; replace c1078 := Hid.mk c1078
                      refine CK.condF (decF c1078.out) ?_
                      refine CK.skip ?_
                      refine thenQ_n ?_
                      refine CK.seq ?_
                      refine CK.reg (ks := []) (.fl 0 (.fl 1 (.fx 2 (.fl 3 (.fl 4 (.fl 5 (.fl 6 (.fl 7 (.nil)))))) .stop))) rfl ?_
                      refine OKS.r rfl rfl rfl rfl (fun _ => Runs.mv rfl f1070) ?_
                      refine OKS.r rfl rfl rfl rfl (fun _ => Runs.mv rfl f1066) ?_
                      have h1305 := hs879.le le889
                      have h1306 := h1305.le le902
                      have h1307 := h1306.le le920
                      have h1308 := h1307.le le927
                      have h1309 := h1308.le le939
                      have h1310 := h1309.le le946
                      have h1311 := h1310.le le958
                      have h1312 := h1311.le le1064
                      have h1313 := h911.le le920
                      have h1314 := h1313.le le927
                      have h1315 := h1314.le le939
                      have h1316 := h1315.le le946
                      have h1317 := h1316.le le958
                      have h1318 := h1317.le le1064
                      obtain ⟨⟨x1319, x1320⟩, h1321, hm1322⟩ := bnd hm1304
                      try dsimp only at hm1322
                      refine OKS.callH 0 rfl rfl rfl rfl (Enters.mk rfl rfl Try.call23 (mapcons rfl (mapcons rfl mapnil)) rfl) hS1065 (fun hs => w_target_Few y791 A863 c864 x17 A29 c30 W1060 φ1063 hs h1312 h1318 h1321) (.inr rfl) ?_
                      rintro φ1323 L1324 v1325 W1326 le1327 hS1328 ⟨rfl, rfl⟩
                      have hS1329 : St ⟨w, [], φ⟩ φ1323 [.blk b48 134 [.slice A861 y788.length c862, .int .i64 y789, .int .u32 y790], .blk b10 134 [.slice A31 x18.bytes.length c32, .int .i64 x18.next, .int .u32 x18.state], .row A891 c892 3 1 (List.flatMap encI x895), .row A922 c923 31 2 (List.flatMap encT_api_Span x912), .row A941 c942 31 2 (List.flatMap encT_api_Span x931), .row A960 c961 31 2 (List.flatMap encT_api_Span x950)] W1326 := hS1328
                      refine OKS.r rfl rfl rfl rfl (fun _ => Runs.mv rfl rfl) ?_
                      refine OKS.r rfl rfl rfl rfl (fun _ => Runs.ext rfl rfl (v := .bool x1319) rfl) ?_
                      refine OKS.r rfl rfl rfl rfl (fun _ => Runs.ext rfl rfl (v := .int .i64 x1320) rfl) ?_
                      refine OKS.r rfl rfl rfl rfl (fun _ => Runs.as rfl rfl) ?_
                      refine OKS.r rfl rfl rfl rfl (fun _ => Runs.as rfl rfl) ?_
                      refine OKS.e ?_
                      refine thenQ_n ?_
                      refine CK.seq ?_
                      refine CK.reg (ks := []) (.fl 0 (.fl 1 (.fx 2 (.fl 3 (.fl 4 (.fl 5 (.fl 6 (.fl 7 (.nil)))))) .stop))) rfl ?_
                      refine OKS.r rfl rfl rfl rfl (fun _ => Runs.mv rfl f1070) ?_
                      refine OKS.r rfl rfl rfl rfl (fun _ => Runs.mv rfl f1068) ?_
                      have h1330 := h1312.le le1327
                      have h1331 := hs928.le le939
                      have h1332 := h1331.le le946
                      have h1333 := h1332.le le958
                      have h1334 := h1333.le le1064
                      have h1335 := h1334.le le1327
                      obtain ⟨⟨x1336, x1337⟩, h1338, hm1339⟩ := bnd hm1322
                      try dsimp only at hm1339
                      refine OKS.callH 0 rfl rfl rfl rfl (Enters.mk rfl rfl Try.call23 (mapcons rfl (mapcons rfl mapnil)) rfl) hS1329 (fun hs => w_target_Few y791 A863 c864 y121 A68 c69 W1326 φ1323 hs h1330 h1335 h1338) (.inr rfl) ?_
                      rintro φ1340 L1341 v1342 W1343 le1344 hS1345 ⟨rfl, rfl⟩
                      have hS1346 : St ⟨w, [], φ⟩ φ1340 [.blk b48 134 [.slice A861 y788.length c862, .int .i64 y789, .int .u32 y790], .blk b10 134 [.slice A31 x18.bytes.length c32, .int .i64 x18.next, .int .u32 x18.state], .row A891 c892 3 1 (List.flatMap encI x895), .row A922 c923 31 2 (List.flatMap encT_api_Span x912), .row A941 c942 31 2 (List.flatMap encT_api_Span x931), .row A960 c961 31 2 (List.flatMap encT_api_Span x950)] W1343 := hS1345
                      refine OKS.r rfl rfl rfl rfl (fun _ => Runs.mv rfl rfl) ?_
                      refine OKS.r rfl rfl rfl rfl (fun _ => Runs.ext rfl rfl (v := .bool x1336) rfl) ?_
                      refine OKS.r rfl rfl rfl rfl (fun _ => Runs.ext rfl rfl (v := .int .i64 x1337) rfl) ?_
                      refine OKS.r rfl rfl rfl rfl (fun _ => Runs.as rfl rfl) ?_
                      refine OKS.r rfl rfl rfl rfl (fun _ => Runs.as rfl rfl) ?_
                      refine OKS.e ?_
                      refine thenQ_n ?_
                      refine CK.seq ?_
                      refine CK.reg (ks := []) (.fl 0 (.fl 1 (.fx 2 (.fl 3 (.fl 4 (.fl 5 (.fl 6 (.fl 7 (.nil)))))) .stop))) rfl ?_
                      refine OKS.r rfl rfl rfl rfl (fun _ => Runs.mv rfl f1071) ?_
                      refine OKS.r rfl rfl rfl rfl (fun _ => Runs.mv rfl f1069) ?_
                      obtain ⟨φ1347, le1348, hs1349, hS1350⟩ := hS1346.freezeR (k := 2) (n := x895.length) rfl (flatMap_len (f := encI) (sz := 1) (fun _ => rfl) x895) (by decide)
                      have hS1351 : St ⟨w, [], φ⟩ φ1347 [.blk b48 134 [.slice A861 y788.length c862, .int .i64 y789, .int .u32 y790], .blk b10 134 [.slice A31 x18.bytes.length c32, .int .i64 x18.next, .int .u32 x18.state], .row A922 c923 31 2 (List.flatMap encT_api_Span x912), .row A941 c942 31 2 (List.flatMap encT_api_Span x931), .row A960 c961 31 2 (List.flatMap encT_api_Span x950)] W1343 := hS1350
                      have h1352 := hs947.le le958
                      have h1353 := h1352.le le1064
                      have h1354 := h1353.le le1327
                      have h1355 := h1354.le le1344
                      have h1356 := h1355.le le1348
                      obtain ⟨⟨x1357, x1358⟩, h1359, hm1360⟩ := bnd hm1339
                      try dsimp only at hm1360
                      refine OKS.callH 0 rfl rfl rfl rfl (Enters.mk rfl rfl Try.call23 (mapcons rfl (mapcons rfl mapnil)) rfl) hS1351 (fun hs => w_target_Few x895 A891 c892 y122 A730 c731 W1343 φ1347 hs hs1349 h1356 h1359) (.inr rfl) ?_
                      rintro φ1361 L1362 v1363 W1364 le1365 hS1366 ⟨rfl, rfl⟩
                      have hS1367 : St ⟨w, [], φ⟩ φ1361 [.blk b48 134 [.slice A861 y788.length c862, .int .i64 y789, .int .u32 y790], .blk b10 134 [.slice A31 x18.bytes.length c32, .int .i64 x18.next, .int .u32 x18.state], .row A922 c923 31 2 (List.flatMap encT_api_Span x912), .row A941 c942 31 2 (List.flatMap encT_api_Span x931), .row A960 c961 31 2 (List.flatMap encT_api_Span x950)] W1364 := hS1366
                      refine OKS.r rfl rfl rfl rfl (fun _ => Runs.mv rfl rfl) ?_
                      refine OKS.r rfl rfl rfl rfl (fun _ => Runs.ext rfl rfl (v := .bool x1357) rfl) ?_
                      refine OKS.r rfl rfl rfl rfl (fun _ => Runs.ext rfl rfl (v := .int .i64 x1358) rfl) ?_
                      refine OKS.r rfl rfl rfl rfl (fun _ => Runs.as rfl rfl) ?_
                      refine OKS.r rfl rfl rfl rfl (fun _ => Runs.as rfl rfl) ?_
                      refine OKS.e ?_
                      refine thenQ_n ?_
                      refine CK.seq ?_
                      refine CK.fresh fun σ1368 hσ1369 => ?_
                      have f1370 : σ1368 16 = .int .i64 x1320 := (hσ1369 16).trans rfl
                      have f1371 : σ1368 18 = .int .i64 x1337 := (hσ1369 18).trans rfl
                      have f1372 : σ1368 20 = .int .i64 x1358 := (hσ1369 20).trans rfl
                      have f1373 : σ1368 25 = .bool x1319 := (hσ1369 25).trans rfl
                      have f1374 : σ1368 26 = .bool x1336 := (hσ1369 26).trans rfl
                      have f1375 : σ1368 27 = .bool x1357 := (hσ1369 27).trans rfl
                      clear hσ1369
                      refine CK.reg (ks := []) (.fl 0 (.fl 1 (.fl 2 (.fl 3 (.fl 4 (.fl 5 (.fl 6 (.fl 7 (.fl 8 (.fl 9 (.fl 10 (.fl 11 (.fl 12 (.fl 13 (.fl 14 (.fl 15 (.fl 16 (.fl 17 (.fl 18 (.fl 19 (.fl 20 (.fl 21 (.fl 22 (.fx 23 (.fl 24 (.fl 25 (.nil))) .stop)))))))))))))))))))))))) rfl ?_
                      refine OKS.r rfl rfl rfl rfl (fun _ => Runs.mv rfl f1370) ?_
                      refine OKS.r rfl rfl rfl rfl (fun _ => Runs.eql rfl rfl rfl) ?_
                      refine OKS.r rfl rfl rfl rfl (fun _ => Runs.mv rfl rfl) ?_
                      by_cases c1376 : x1320 = 0
                      · have hm1377 := hm1360; rw [if_pos c1376] at hm1377; replace c1376 := Hid.mk c1376
                        refine OKS.r rfl rfl rfl (wantedY rfl rfl (decT c1376.out)) (fun _ => Runs.mv rfl f1371) ?_
                        refine OKS.r rfl rfl rfl (wantedY rfl rfl (decT c1376.out)) (fun _ => Runs.eql rfl rfl rfl) ?_
                        refine OKS.r rfl rfl rfl rfl (fun _ => Runs.pickT rfl (decT c1376.out) rfl) ?_
                        refine OKS.r rfl rfl rfl rfl (fun _ => Runs.mv rfl rfl) ?_
                        by_cases c1378 : x1337 = 0
                        · have hm1379 := hm1377; rw [if_pos c1378] at hm1379; replace c1378 := Hid.mk c1378
                          refine OKS.r rfl rfl rfl (wantedY rfl rfl (decT c1378.out)) (fun _ => Runs.mv rfl f1372) ?_
                          refine OKS.r rfl rfl rfl (wantedY rfl rfl (decT c1378.out)) (fun _ => Runs.eql rfl rfl rfl) ?_
                          refine OKS.r rfl rfl rfl rfl (fun _ => Runs.pickT rfl (decT c1378.out) rfl) ?_
                          refine OKS.r rfl rfl rfl rfl (fun _ => Runs.mv rfl rfl) ?_
                          by_cases c1380 : x1358 = 0
                          · have hm1381 := hm1379; rw [if_pos c1380] at hm1381; replace c1380 := Hid.mk c1380
                            refine OKS.r rfl rfl rfl (wantedY rfl rfl (decT c1380.out)) (fun _ => Runs.mv rfl f1373) ?_
                            refine OKS.r rfl rfl rfl (wantedY rfl rfl (decT c1380.out)) (fun _ => Runs.mv rfl rfl) ?_
                            by_cases c1382 : x1319 = true
                            · have hm1383 := hm1381; rw [if_pos c1382] at hm1383; replace c1382 := Hid.mk c1382
                              refine OKS.p rfl rfl rfl (wantedN rfl rfl (congrArg Value.bool c1382.out) rfl) ?_
                              refine OKS.p rfl rfl rfl (wantedN rfl rfl (congrArg Value.bool c1382.out) rfl) ?_
                              refine OKS.r rfl rfl rfl (wantedY rfl rfl (decT c1380.out)) (fun _ => Runs.pickT rfl (congrArg Value.bool c1382.out) rfl) ?_
                              refine OKS.r rfl rfl rfl rfl (fun _ => Runs.pickT rfl (decT c1380.out) rfl) ?_
                              refine OKS.r rfl rfl rfl rfl (fun _ => Runs.mv rfl rfl) ?_
                              refine OKS.r rfl rfl rfl (wantedY rfl rfl rfl) (fun _ => Runs.mv rfl f1373) ?_
                              refine OKS.r rfl rfl rfl (wantedY rfl rfl rfl) (fun _ => Runs.mv rfl f1375) ?_
                              refine OKS.r rfl rfl rfl (wantedY rfl rfl rfl) (fun _ => Runs.eqB rfl rfl rfl Try.runUnderlying4) ?_
                              refine OKS.r rfl rfl rfl rfl (fun _ => Runs.pickT rfl rfl rfl) ?_
                              refine OKS.r rfl rfl rfl rfl (fun _ => Runs.mv rfl rfl) ?_
                              by_cases c1384 : (x1319 == x1357) = true
                              · have hm1385 := hm1383; rw [if_pos c1384] at hm1385; replace c1384 := Hid.mk c1384
                                obtain ⟨x1386, h1387, hm1388⟩ := bnd hm1385
                                refine OKS.callH 0 rfl rfl rfl (wantedY rfl rfl (congrArg Value.bool c1384.out)) (Enters.mk rfl rfl Try.call24 mapnil rfl) hS1367 (fun hs => w_klisterlaw03_awake W1364 φ1361 hs h1387) (.inr rfl) ?_
                                rintro φ1389 L1390 v1391 W1392 le1393 hS1394 ⟨rfl, rfl⟩
                                have hS1395 : St ⟨w, [], φ⟩ φ1389 [.blk b48 134 [.slice A861 y788.length c862, .int .i64 y789, .int .u32 y790], .blk b10 134 [.slice A31 x18.bytes.length c32, .int .i64 x18.next, .int .u32 x18.state], .row A922 c923 31 2 (List.flatMap encT_api_Span x912), .row A941 c942 31 2 (List.flatMap encT_api_Span x931), .row A960 c961 31 2 (List.flatMap encT_api_Span x950)] W1392 := hS1394
                                refine OKS.r rfl rfl rfl rfl (fun _ => Runs.pickT rfl (congrArg Value.bool c1384.out) rfl) ?_
                                refine OKS.r rfl rfl rfl rfl (fun _ => Runs.as rfl rfl) ?_
                                refine OKS.e ?_
                                refine thenQ_n ?_
                                refine CK.ret ?_
                                cases hm1388
                                exact ⟨rfl, _, (res1 rfl), φ1389, _, (hS1395.pick [] _ (by decide) rfl), rfl, rfl⟩
                              · have hm1396 := hm1383; rw [if_neg c1384] at hm1396; replace c1384 := Hid.mk c1384
                                refine OKS.px rfl rfl rfl (wantedN rfl rfl (congrArg Value.bool (Bool.eq_false_iff.2 c1384.out)) rfl) ?_
                                refine OKS.r rfl rfl rfl rfl (fun _ => Runs.pickF rfl (congrArg Value.bool (Bool.eq_false_iff.2 c1384.out)) rfl) ?_
                                refine OKS.r rfl rfl rfl rfl (fun _ => Runs.as rfl rfl) ?_
                                refine OKS.e ?_
                                refine thenQ_n ?_
                                refine CK.ret ?_
                                cases hm1396
                                exact ⟨rfl, _, (res1 rfl), φ1361, _, (hS1367.pick [] _ (by decide) rfl), rfl, rfl⟩
                            · have hm1397 := hm1381; rw [if_neg c1382] at hm1397; replace c1382 := Hid.mk c1382
                              refine OKS.r rfl rfl rfl (wantedY rfl rfl (congrArg Value.bool (Bool.eq_false_iff.2 c1382.out))) (fun _ => Runs.mv rfl f1374) ?_
                              refine OKS.r rfl rfl rfl (wantedY rfl rfl (congrArg Value.bool (Bool.eq_false_iff.2 c1382.out))) (fun _ => Runs.notT rfl rfl) ?_
                              refine OKS.r rfl rfl rfl (wantedY rfl rfl (decT c1380.out)) (fun _ => Runs.pickF rfl (congrArg Value.bool (Bool.eq_false_iff.2 c1382.out)) rfl) ?_
                              refine OKS.r rfl rfl rfl rfl (fun _ => Runs.pickT rfl (decT c1380.out) rfl) ?_
                              refine OKS.r rfl rfl rfl rfl (fun _ => Runs.mv rfl rfl) ?_
                              by_cases c1398 : x1336 = true
                              · have hm1399 := hm1397; rw [if_pos c1398] at hm1399; replace c1398 := Hid.mk c1398
                                refine OKS.p rfl rfl rfl (wantedN rfl rfl (congrArg (fun b => Value.bool (!b)) c1398.out) rfl) ?_
                                refine OKS.p rfl rfl rfl (wantedN rfl rfl (congrArg (fun b => Value.bool (!b)) c1398.out) rfl) ?_
                                refine OKS.p rfl rfl rfl (wantedN rfl rfl (congrArg (fun b => Value.bool (!b)) c1398.out) rfl) ?_
                                refine OKS.r rfl rfl rfl rfl (fun _ => Runs.pickF rfl (congrArg (fun b => Value.bool (!b)) c1398.out) rfl) ?_
                                refine OKS.r rfl rfl rfl rfl (fun _ => Runs.mv rfl rfl) ?_
                                refine OKS.px rfl rfl rfl (wantedN rfl rfl rfl rfl) ?_
                                refine OKS.r rfl rfl rfl rfl (fun _ => Runs.pickF rfl rfl rfl) ?_
                                refine OKS.r rfl rfl rfl rfl (fun _ => Runs.as rfl rfl) ?_
                                refine OKS.e ?_
                                refine thenQ_n ?_
                                refine CK.ret ?_
                                cases hm1399
                                exact ⟨rfl, _, (res1 rfl), φ1361, _, (hS1367.pick [] _ (by decide) rfl), rfl, rfl⟩
                              · have hm1400 := hm1397; rw [if_neg c1398] at hm1400; replace c1398 := Hid.mk c1398
                                refine OKS.r rfl rfl rfl (wantedY rfl rfl (congrArg (fun b => Value.bool (!b)) (Bool.eq_false_iff.2 c1398.out))) (fun _ => Runs.mv rfl f1373) ?_
                                refine OKS.r rfl rfl rfl (wantedY rfl rfl (congrArg (fun b => Value.bool (!b)) (Bool.eq_false_iff.2 c1398.out))) (fun _ => Runs.mv rfl f1375) ?_
                                refine OKS.r rfl rfl rfl (wantedY rfl rfl (congrArg (fun b => Value.bool (!b)) (Bool.eq_false_iff.2 c1398.out))) (fun _ => Runs.eqB rfl rfl rfl Try.runUnderlying4) ?_
                                refine OKS.r rfl rfl rfl rfl (fun _ => Runs.pickT rfl (congrArg (fun b => Value.bool (!b)) (Bool.eq_false_iff.2 c1398.out)) rfl) ?_
                                refine OKS.r rfl rfl rfl rfl (fun _ => Runs.mv rfl rfl) ?_
                                by_cases c1401 : (x1319 == x1357) = true
                                · have hm1402 := hm1400; rw [if_pos c1401] at hm1402; replace c1401 := Hid.mk c1401
                                  obtain ⟨x1403, h1404, hm1405⟩ := bnd hm1402
                                  refine OKS.callH 0 rfl rfl rfl (wantedY rfl rfl (congrArg Value.bool c1401.out)) (Enters.mk rfl rfl Try.call24 mapnil rfl) hS1367 (fun hs => w_klisterlaw03_awake W1364 φ1361 hs h1404) (.inr rfl) ?_
                                  rintro φ1406 L1407 v1408 W1409 le1410 hS1411 ⟨rfl, rfl⟩
                                  have hS1412 : St ⟨w, [], φ⟩ φ1406 [.blk b48 134 [.slice A861 y788.length c862, .int .i64 y789, .int .u32 y790], .blk b10 134 [.slice A31 x18.bytes.length c32, .int .i64 x18.next, .int .u32 x18.state], .row A922 c923 31 2 (List.flatMap encT_api_Span x912), .row A941 c942 31 2 (List.flatMap encT_api_Span x931), .row A960 c961 31 2 (List.flatMap encT_api_Span x950)] W1409 := hS1411
                                  refine OKS.r rfl rfl rfl rfl (fun _ => Runs.pickT rfl (congrArg Value.bool c1401.out) rfl) ?_
                                  refine OKS.r rfl rfl rfl rfl (fun _ => Runs.as rfl rfl) ?_
                                  refine OKS.e ?_
                                  refine thenQ_n ?_
                                  refine CK.ret ?_
                                  cases hm1405
                                  exact ⟨rfl, _, (res1 rfl), φ1406, _, (hS1412.pick [] _ (by decide) rfl), rfl, rfl⟩
                                · have hm1413 := hm1400; rw [if_neg c1401] at hm1413; replace c1401 := Hid.mk c1401
                                  refine OKS.px rfl rfl rfl (wantedN rfl rfl (congrArg Value.bool (Bool.eq_false_iff.2 c1401.out)) rfl) ?_
                                  refine OKS.r rfl rfl rfl rfl (fun _ => Runs.pickF rfl (congrArg Value.bool (Bool.eq_false_iff.2 c1401.out)) rfl) ?_
                                  refine OKS.r rfl rfl rfl rfl (fun _ => Runs.as rfl rfl) ?_
                                  refine OKS.e ?_
                                  refine thenQ_n ?_
                                  refine CK.ret ?_
                                  cases hm1413
                                  exact ⟨rfl, _, (res1 rfl), φ1361, _, (hS1367.pick [] _ (by decide) rfl), rfl, rfl⟩
                          · have hm1414 := hm1379; rw [if_neg c1380] at hm1414; replace c1380 := Hid.mk c1380
                            refine OKS.p rfl rfl rfl (wantedN rfl rfl (decF c1380.out) rfl) ?_
                            refine OKS.p rfl rfl rfl (wantedN rfl rfl (decF c1380.out) rfl) ?_
                            refine OKS.p rfl rfl rfl (wantedU rfl rfl rfl) ?_
                            refine OKS.p rfl rfl rfl (wantedU rfl rfl rfl) ?_
                            refine OKS.p rfl rfl rfl (wantedN rfl rfl (decF c1380.out) rfl) ?_
                            refine OKS.r rfl rfl rfl rfl (fun _ => Runs.pickF rfl (decF c1380.out) rfl) ?_
                            refine OKS.r rfl rfl rfl rfl (fun _ => Runs.mv rfl rfl) ?_
                            refine OKS.p rfl rfl rfl (wantedN rfl rfl rfl rfl) ?_
                            refine OKS.p rfl rfl rfl (wantedN rfl rfl rfl rfl) ?_
                            refine OKS.p rfl rfl rfl (wantedN rfl rfl rfl rfl) ?_
                            refine OKS.r rfl rfl rfl rfl (fun _ => Runs.pickF rfl rfl rfl) ?_
                            refine OKS.r rfl rfl rfl rfl (fun _ => Runs.mv rfl rfl) ?_
                            refine OKS.px rfl rfl rfl (wantedN rfl rfl rfl rfl) ?_
                            refine OKS.r rfl rfl rfl rfl (fun _ => Runs.pickF rfl rfl rfl) ?_
                            refine OKS.r rfl rfl rfl rfl (fun _ => Runs.as rfl rfl) ?_
                            refine OKS.e ?_
                            refine thenQ_n ?_
                            refine CK.ret ?_
                            cases hm1414
                            exact ⟨rfl, _, (res1 rfl), φ1361, _, (hS1367.pick [] _ (by decide) rfl), rfl, rfl⟩
                        · have hm1415 := hm1377; rw [if_neg c1378] at hm1415; replace c1378 := Hid.mk c1378
                          refine OKS.p rfl rfl rfl (wantedN rfl rfl (decF c1378.out) rfl) ?_
                          refine OKS.p rfl rfl rfl (wantedN rfl rfl (decF c1378.out) rfl) ?_
                          refine OKS.r rfl rfl rfl rfl (fun _ => Runs.pickF rfl (decF c1378.out) rfl) ?_
                          refine OKS.r rfl rfl rfl rfl (fun _ => Runs.mv rfl rfl) ?_
                          refine OKS.p rfl rfl rfl (wantedN rfl rfl rfl rfl) ?_
                          refine OKS.p rfl rfl rfl (wantedN rfl rfl rfl rfl) ?_
                          refine OKS.p rfl rfl rfl (wantedU rfl rfl rfl) ?_
                          refine OKS.p rfl rfl rfl (wantedU rfl rfl rfl) ?_
                          refine OKS.p rfl rfl rfl (wantedN rfl rfl rfl rfl) ?_
                          refine OKS.r rfl rfl rfl rfl (fun _ => Runs.pickF rfl rfl rfl) ?_
                          refine OKS.r rfl rfl rfl rfl (fun _ => Runs.mv rfl rfl) ?_
                          refine OKS.p rfl rfl rfl (wantedN rfl rfl rfl rfl) ?_
                          refine OKS.p rfl rfl rfl (wantedN rfl rfl rfl rfl) ?_
                          refine OKS.p rfl rfl rfl (wantedN rfl rfl rfl rfl) ?_
                          refine OKS.r rfl rfl rfl rfl (fun _ => Runs.pickF rfl rfl rfl) ?_
                          refine OKS.r rfl rfl rfl rfl (fun _ => Runs.mv rfl rfl) ?_
                          refine OKS.px rfl rfl rfl (wantedN rfl rfl rfl rfl) ?_
                          refine OKS.r rfl rfl rfl rfl (fun _ => Runs.pickF rfl rfl rfl) ?_
                          refine OKS.r rfl rfl rfl rfl (fun _ => Runs.as rfl rfl) ?_
                          refine OKS.e ?_
                          refine thenQ_n ?_
                          refine CK.ret ?_
                          cases hm1415
                          exact ⟨rfl, _, (res1 rfl), φ1361, _, (hS1367.pick [] _ (by decide) rfl), rfl, rfl⟩
                      · have hm1416 := hm1360; rw [if_neg c1376] at hm1416; replace c1376 := Hid.mk c1376
                        refine OKS.p rfl rfl rfl (wantedN rfl rfl (decF c1376.out) rfl) ?_
                        refine OKS.p rfl rfl rfl (wantedN rfl rfl (decF c1376.out) rfl) ?_
                        refine OKS.r rfl rfl rfl rfl (fun _ => Runs.pickF rfl (decF c1376.out) rfl) ?_
                        refine OKS.r rfl rfl rfl rfl (fun _ => Runs.mv rfl rfl) ?_
                        refine OKS.p rfl rfl rfl (wantedN rfl rfl rfl rfl) ?_
                        refine OKS.p rfl rfl rfl (wantedN rfl rfl rfl rfl) ?_
                        refine OKS.r rfl rfl rfl rfl (fun _ => Runs.pickF rfl rfl rfl) ?_
                        refine OKS.r rfl rfl rfl rfl (fun _ => Runs.mv rfl rfl) ?_
                        refine OKS.p rfl rfl rfl (wantedN rfl rfl rfl rfl) ?_
                        refine OKS.p rfl rfl rfl (wantedN rfl rfl rfl rfl) ?_
                        refine OKS.p rfl rfl rfl (wantedU rfl rfl rfl) ?_
                        refine OKS.p rfl rfl rfl (wantedU rfl rfl rfl) ?_
                        refine OKS.p rfl rfl rfl (wantedN rfl rfl rfl rfl) ?_
                        refine OKS.r rfl rfl rfl rfl (fun _ => Runs.pickF rfl rfl rfl) ?_
                        refine OKS.r rfl rfl rfl rfl (fun _ => Runs.mv rfl rfl) ?_
                        refine OKS.p rfl rfl rfl (wantedN rfl rfl rfl rfl) ?_
                        refine OKS.p rfl rfl rfl (wantedN rfl rfl rfl rfl) ?_
                        refine OKS.p rfl rfl rfl (wantedN rfl rfl rfl rfl) ?_
                        refine OKS.r rfl rfl rfl rfl (fun _ => Runs.pickF rfl rfl rfl) ?_
                        refine OKS.r rfl rfl rfl rfl (fun _ => Runs.mv rfl rfl) ?_
                        refine OKS.px rfl rfl rfl (wantedN rfl rfl rfl rfl) ?_
                        refine OKS.r rfl rfl rfl rfl (fun _ => Runs.pickF rfl rfl rfl) ?_
                        refine OKS.r rfl rfl rfl rfl (fun _ => Runs.as rfl rfl) ?_
                        refine OKS.e ?_
                        refine thenQ_n ?_
                        refine CK.ret ?_
                        cases hm1416
                        exact ⟨rfl, _, (res1 rfl), φ1361, _, (hS1367.pick [] _ (by decide) rfl), rfl, rfl⟩
                · have hm1417 := hm987; rw [if_neg c988] at hm1417; replace c988 := Hid.mk c988
                  refine CK.condT (decT c988.out) ?_
                  refine CK.seq ?_
                  refine CK.reg (ks := []) (.fl 0 (.nil)) rfl ?_
                  refine OKS.r rfl rfl rfl rfl (fun _ => Runs.as rfl rfl) ?_
                  refine OKS.e ?_
                  refine thenQ_n ?_
                  refine CK.ret ?_
                  refine thenQ_r ?_
                  cases hm1417
                  exact ⟨rfl, _, (res1 rfl), φ954, _, (hS963.pick [] _ (by decide) rfl), rfl, rfl⟩
              · have hm1418 := hm985; rw [if_neg c986] at hm1418; replace c986 := Hid.mk c986
                refine OKS.p rfl rfl rfl (wantedN rfl rfl (decT c986.out) rfl) ?_
                refine OKS.p rfl rfl rfl (wantedN rfl rfl (decT c986.out) rfl) ?_
                refine OKS.p rfl rfl rfl (wantedN rfl rfl (decT c986.out) rfl) ?_
                refine OKS.p rfl rfl rfl (wantedN rfl rfl (decT c986.out) rfl) ?_
                refine OKS.r rfl rfl rfl rfl (fun _ => Runs.pickT rfl (decT c986.out) rfl) ?_
                refine OKS.e ?_
                refine thenQ_n ?_
                refine CK.condT rfl ?_
                refine CK.seq ?_
                refine CK.reg (ks := []) (.fl 0 (.nil)) rfl ?_
                refine OKS.r rfl rfl rfl rfl (fun _ => Runs.as rfl rfl) ?_
                refine OKS.e ?_
                refine thenQ_n ?_
                refine CK.ret ?_
                refine thenQ_r ?_
                cases hm1418
                exact ⟨rfl, _, (res1 rfl), φ954, _, (hS963.pick [] _ (by decide) rfl), rfl, rfl⟩
            · have hm1419 := hm983; rw [if_neg c984] at hm1419; replace c984 := Hid.mk c984
              refine OKS.p rfl rfl rfl (wantedN rfl rfl (decT c984.out) rfl) ?_
              refine OKS.p rfl rfl rfl (wantedN rfl rfl (decT c984.out) rfl) ?_
              refine OKS.p rfl rfl rfl (wantedN rfl rfl (decT c984.out) rfl) ?_
              refine OKS.p rfl rfl rfl (wantedN rfl rfl (decT c984.out) rfl) ?_
              refine OKS.r rfl rfl rfl rfl (fun _ => Runs.pickT rfl (decT c984.out) rfl) ?_
              refine OKS.r rfl rfl rfl rfl (fun _ => Runs.mv rfl rfl) ?_
              refine OKS.p rfl rfl rfl (wantedN rfl rfl rfl rfl) ?_
              refine OKS.p rfl rfl rfl (wantedN rfl rfl rfl rfl) ?_
              refine OKS.p rfl rfl rfl (wantedN rfl rfl rfl rfl) ?_
              refine OKS.p rfl rfl rfl (wantedN rfl rfl rfl rfl) ?_
              refine OKS.r rfl rfl rfl rfl (fun _ => Runs.pickT rfl rfl rfl) ?_
              refine OKS.e ?_
              refine thenQ_n ?_
              refine CK.condT rfl ?_
              refine CK.seq ?_
              refine CK.reg (ks := []) (.fl 0 (.nil)) rfl ?_
              refine OKS.r rfl rfl rfl rfl (fun _ => Runs.as rfl rfl) ?_
              refine OKS.e ?_
              refine thenQ_n ?_
              refine CK.ret ?_
              refine thenQ_r ?_
              cases hm1419
              exact ⟨rfl, _, (res1 rfl), φ954, _, (hS963.pick [] _ (by decide) rfl), rfl, rfl⟩
          · have hm1420 := hm981; rw [if_neg c982] at hm1420; replace c982 := Hid.mk c982
            refine OKS.p rfl rfl rfl (wantedN rfl rfl (decT c982.out) rfl) ?_
            refine OKS.p rfl rfl rfl (wantedN rfl rfl (decT c982.out) rfl) ?_
            refine OKS.p rfl rfl rfl (wantedN rfl rfl (decT c982.out) rfl) ?_
            refine OKS.p rfl rfl rfl (wantedN rfl rfl (decT c982.out) rfl) ?_
            refine OKS.r rfl rfl rfl rfl (fun _ => Runs.pickT rfl (decT c982.out) rfl) ?_
            refine OKS.r rfl rfl rfl rfl (fun _ => Runs.mv rfl rfl) ?_
            refine OKS.p rfl rfl rfl (wantedN rfl rfl rfl rfl) ?_
            refine OKS.p rfl rfl rfl (wantedN rfl rfl rfl rfl) ?_
            refine OKS.p rfl rfl rfl (wantedN rfl rfl rfl rfl) ?_
            refine OKS.p rfl rfl rfl (wantedN rfl rfl rfl rfl) ?_
            refine OKS.r rfl rfl rfl rfl (fun _ => Runs.pickT rfl rfl rfl) ?_
            refine OKS.r rfl rfl rfl rfl (fun _ => Runs.mv rfl rfl) ?_
            refine OKS.p rfl rfl rfl (wantedN rfl rfl rfl rfl) ?_
            refine OKS.p rfl rfl rfl (wantedN rfl rfl rfl rfl) ?_
            refine OKS.p rfl rfl rfl (wantedN rfl rfl rfl rfl) ?_
            refine OKS.p rfl rfl rfl (wantedN rfl rfl rfl rfl) ?_
            refine OKS.r rfl rfl rfl rfl (fun _ => Runs.pickT rfl rfl rfl) ?_
            refine OKS.e ?_
            refine thenQ_n ?_
            refine CK.condT rfl ?_
            refine CK.seq ?_
            refine CK.reg (ks := []) (.fl 0 (.nil)) rfl ?_
            refine OKS.r rfl rfl rfl rfl (fun _ => Runs.as rfl rfl) ?_
            refine OKS.e ?_
            refine thenQ_n ?_
            refine CK.ret ?_
            refine thenQ_r ?_
            cases hm1420
            exact ⟨rfl, _, (res1 rfl), φ954, _, (hS963.pick [] _ (by decide) rfl), rfl, rfl⟩
        · have hm1421 := hm979; rw [if_neg c980] at hm1421; replace c980 := Hid.mk c980
          refine OKS.p rfl rfl rfl (wantedN rfl rfl (decT c980.out) rfl) ?_
          refine OKS.p rfl rfl rfl (wantedN rfl rfl (decT c980.out) rfl) ?_
          refine OKS.r rfl rfl rfl rfl (fun _ => Runs.pickT rfl (decT c980.out) rfl) ?_
          refine OKS.r rfl rfl rfl rfl (fun _ => Runs.mv rfl rfl) ?_
          refine OKS.p rfl rfl rfl (wantedN rfl rfl rfl rfl) ?_
          refine OKS.p rfl rfl rfl (wantedN rfl rfl rfl rfl) ?_
          refine OKS.p rfl rfl rfl (wantedN rfl rfl rfl rfl) ?_
          refine OKS.p rfl rfl rfl (wantedN rfl rfl rfl rfl) ?_
          refine OKS.r rfl rfl rfl rfl (fun _ => Runs.pickT rfl rfl rfl) ?_
          refine OKS.r rfl rfl rfl rfl (fun _ => Runs.mv rfl rfl) ?_
          refine OKS.p rfl rfl rfl (wantedN rfl rfl rfl rfl) ?_
          refine OKS.p rfl rfl rfl (wantedN rfl rfl rfl rfl) ?_
          refine OKS.p rfl rfl rfl (wantedN rfl rfl rfl rfl) ?_
          refine OKS.p rfl rfl rfl (wantedN rfl rfl rfl rfl) ?_
          refine OKS.r rfl rfl rfl rfl (fun _ => Runs.pickT rfl rfl rfl) ?_
          refine OKS.r rfl rfl rfl rfl (fun _ => Runs.mv rfl rfl) ?_
          refine OKS.p rfl rfl rfl (wantedN rfl rfl rfl rfl) ?_
          refine OKS.p rfl rfl rfl (wantedN rfl rfl rfl rfl) ?_
          refine OKS.p rfl rfl rfl (wantedN rfl rfl rfl rfl) ?_
          refine OKS.p rfl rfl rfl (wantedN rfl rfl rfl rfl) ?_
          refine OKS.r rfl rfl rfl rfl (fun _ => Runs.pickT rfl rfl rfl) ?_
          refine OKS.e ?_
          refine thenQ_n ?_
          refine CK.condT rfl ?_
          refine CK.seq ?_
          refine CK.reg (ks := []) (.fl 0 (.nil)) rfl ?_
          refine OKS.r rfl rfl rfl rfl (fun _ => Runs.as rfl rfl) ?_
          refine OKS.e ?_
          refine thenQ_n ?_
          refine CK.ret ?_
          refine thenQ_r ?_
          cases hm1421
          exact ⟨rfl, _, (res1 rfl), φ954, _, (hS963.pick [] _ (by decide) rfl), rfl, rfl⟩
      · have hm1422 := hm953; rw [if_neg c978] at hm1422; replace c978 := Hid.mk c978
        refine OKS.p rfl rfl rfl (wantedN rfl rfl (decT c978.out) rfl) ?_
        refine OKS.p rfl rfl rfl (wantedN rfl rfl (decT c978.out) rfl) ?_
        refine OKS.r rfl rfl rfl rfl (fun _ => Runs.pickT rfl (decT c978.out) rfl) ?_
        refine OKS.r rfl rfl rfl rfl (fun _ => Runs.mv rfl rfl) ?_
        refine OKS.p rfl rfl rfl (wantedN rfl rfl rfl rfl) ?_
        refine OKS.p rfl rfl rfl (wantedN rfl rfl rfl rfl) ?_
        refine OKS.r rfl rfl rfl rfl (fun _ => Runs.pickT rfl rfl rfl) ?_
        refine OKS.r rfl rfl rfl rfl (fun _ => Runs.mv rfl rfl) ?_
        refine OKS.p rfl rfl rfl (wantedN rfl rfl rfl rfl) ?_
        refine OKS.p rfl rfl rfl (wantedN rfl rfl rfl rfl) ?_
        refine OKS.p rfl rfl rfl (wantedN rfl rfl rfl rfl) ?_
        refine OKS.p rfl rfl rfl (wantedN rfl rfl rfl rfl) ?_
        refine OKS.r rfl rfl rfl rfl (fun _ => Runs.pickT rfl rfl rfl) ?_
        refine OKS.r rfl rfl rfl rfl (fun _ => Runs.mv rfl rfl) ?_
        refine OKS.p rfl rfl rfl (wantedN rfl rfl rfl rfl) ?_
        refine OKS.p rfl rfl rfl (wantedN rfl rfl rfl rfl) ?_
        refine OKS.p rfl rfl rfl (wantedN rfl rfl rfl rfl) ?_
        refine OKS.p rfl rfl rfl (wantedN rfl rfl rfl rfl) ?_
        refine OKS.r rfl rfl rfl rfl (fun _ => Runs.pickT rfl rfl rfl) ?_
        refine OKS.r rfl rfl rfl rfl (fun _ => Runs.mv rfl rfl) ?_
        refine OKS.p rfl rfl rfl (wantedN rfl rfl rfl rfl) ?_
        refine OKS.p rfl rfl rfl (wantedN rfl rfl rfl rfl) ?_
        refine OKS.p rfl rfl rfl (wantedN rfl rfl rfl rfl) ?_
        refine OKS.p rfl rfl rfl (wantedN rfl rfl rfl rfl) ?_
        refine OKS.r rfl rfl rfl rfl (fun _ => Runs.pickT rfl rfl rfl) ?_
        refine OKS.e ?_
        refine thenQ_n ?_
        refine CK.condT rfl ?_
        refine CK.seq ?_
        refine CK.reg (ks := []) (.fl 0 (.nil)) rfl ?_
        refine OKS.r rfl rfl rfl rfl (fun _ => Runs.as rfl rfl) ?_
        refine OKS.e ?_
        refine thenQ_n ?_
        refine CK.ret ?_
        refine thenQ_r ?_
        cases hm1422
        exact ⟨rfl, _, (res1 rfl), φ954, _, (hS963.pick [] _ (by decide) rfl), rfl, rfl⟩
end Go.Proofs.Ytnllmignponhdaa
