/- Walks, printed by a program: each function does what its model says. -/
import Derived.Test.YtnllmignponhdaaEnc
import Derived.Test.YtnllmignponhdaaW0
namespace Go.Proofs.Ytnllmignponhdaa
open Go.KL
set_option maxHeartbeats 4000000 in
theorem w_klisterkit_Equal_int (p0 : List Int) (pA0 : Option Addr) (pc0 : Nat) (p1 : List Int) (pA1 : Option Addr) (pc1 : Nat) (w : World) (φ : PHeap) (hS : St ⟨w, [], φ⟩ φ [] w) (ha0 : Sl φ 1 pA0 pc0 p0.length (List.flatMap encI p0)) (ha1 : Sl φ 1 pA1 pc1 p1.length (List.flatMap encI p1)) {r : Bool} (hm : m_klisterkit_Equal_int p0 p1 = some r) : Gv Try.prog 34 [.slice pA0 p0.length pc0, .slice pA1 p1.length pc1] w (RetS w [] φ (fun φ_ L_ v => v = .bool r ∧ L_ = [])) := by
  unfold m_klisterkit_Equal_int at hm
  refine Gv.of Try.func34 rfl Try.ntmps34 Try.results34 rfl ?_
  refine CK.seq ?_
  refine CK.reg (ks := []) (.fl 0 (.nil)) rfl ?_
  refine OKS.r rfl rfl rfl rfl (fun _ => Runs.as rfl rfl) ?_
  refine OKS.e ?_
  refine thenQ_n ?_
  refine CK.seq ?_
  refine CK.seq ?_
  refine CK.reg (ks := []) (.fl 0 (.fl 1 (.fl 2 (.fl 3 (.fl 4 (.nil)))))) rfl ?_
  refine OKS.r rfl rfl rfl rfl (fun _ => Runs.mv rfl rfl) ?_
  refine OKS.r rfl rfl rfl rfl (fun _ => Runs.len rfl rfl Try.runUnderlying23) ?_
  refine OKS.r rfl rfl rfl rfl (fun _ => Runs.mv rfl rfl) ?_
  refine OKS.r rfl rfl rfl rfl (fun _ => Runs.len rfl rfl Try.runUnderlying23) ?_
  refine OKS.r rfl rfl rfl rfl (fun _ => Runs.neq rfl rfl rfl) ?_
  refine OKS.e ?_
  refine thenQ_n ?_
  by_cases c1 : (↑p0.length : Int) = (↑p1.length : Int)
  · have hm2 := hm; rw [if_pos c1] at hm2; replace c1 := Hid.mk c1
    refine CK.condF (decF (fun h => h c1.out)) ?_
    refine CK.skip ?_
    refine thenQ_n ?_
    refine CK.seq ?_
    refine CK.seq ?_
    refine CK.reg (ks := []) (.fl 0 (.fl 1 (.fl 2 (.nil)))) rfl ?_
    refine OKS.r rfl rfl rfl rfl (fun _ => Runs.mv rfl rfl) ?_
    refine OKS.r rfl rfl rfl rfl (fun _ => Runs.len rfl rfl Try.runUnderlying23) ?_
    refine OKS.r rfl rfl rfl rfl (fun _ => Runs.mv rfl rfl) ?_
    refine OKS.e ?_
    refine thenQ_n ?_
    refine CK.block ?_
    obtain ⟨r5, hX6⟩ := jn_some hm2
    obtain ⟨hle7, hf8⟩ := forR_le hX6
    replace hle7 := Hid.mk hle7
    refine CK.forN (fun k4 _ σ_ w_ => ∃ (φ_ : PHeap), σ_ 13 = .int .i64 (↑k4 : Int) ∧ σ_ 0 = .slice pA0 p0.length pc0 ∧ σ_ 1 = .slice pA1 p1.length pc1 ∧ σ_ 12 = .int .i64 (↑p0.length : Int) ∧ PHeap.Le φ φ_ ∧ St ⟨w, [], φ⟩ φ_ [] w_) hf8 ?_ ?_ ?_
    · exact ⟨φ, rfl, rfl, rfl, rfl, (PHeap.Le.refl _), hS⟩
    · rintro k4 ⟨⟩ xx11 σ9 W10 hk14 ⟨φ16, fi15, f19, f20, f21, le17, hS18⟩ hx12 hb13
      try dsimp only at hx12
      have c22 : Hid ((↑k4 : Int) < (↑p0.length : Int)) := Hid.mk (lp_lt0 hk14)
      replace hk14 := Hid.mk hk14
      have hi23 : Hid (w64 ((↑k4 : Int) + 1) = (↑(k4 + 1) : Int)) := Hid.mk (by have h1 := hle7.out; have h2 := c22.out; rw [w64_in] <;> omega)
      refine CK.seq ?_
      refine CK.reg (ks := []) (.fl 0 (.nil)) rfl ?_
      refine OKS.r rfl rfl rfl rfl (fun _ => Runs.lss rfl fi15 f21) ?_
      refine OKS.e ?_
      refine thenQ_n ?_
      refine CK.seq ?_
      refine CK.condT (decT c22.out) ?_
      refine CK.skip ?_
      refine thenQ_n ?_
      refine CK.seq ?_
      refine CK.block ?_
      refine CK.seq ?_
      refine CK.reg (ks := []) (.fl 0 (.fl 1 (.nil))) rfl ?_
      refine OKS.r rfl rfl rfl rfl (fun _ => Runs.mv rfl fi15) ?_
      refine OKS.r rfl rfl rfl rfl (fun _ => Runs.as rfl rfl) ?_
      refine OKS.e ?_
      refine thenQ_n ?_
      refine CK.seq ?_
      refine CK.anyOrd Try.mixed [3, 3, 3, 1, 3, 3, 3, 1, 3] (.fl 0 (.fl 1 (.fl 2 (.fl 3 (.fl 4 (.fl 5 (.fl 6 (.fl 7 (.fl 8 (.nil)))))))))) (by kernel_rfl) ?_
      have hS24 := hS18.drew
      generalize hw_W25 : ({ W10 with drawn := W10.drawn + 1 } : World) = W25 at hS24 ⊢
      refine OKS.r rfl rfl rfl rfl (fun _ => Runs.mv rfl f19) ?_
      refine OKS.r rfl rfl rfl rfl (fun _ => Runs.mv rfl rfl) ?_
      obtain ⟨x26, h27, hm28⟩ := bnd hx12
      have h29 := ha0.le le17
      obtain ⟨b30, off31, hA32, hC33⟩ := h29.el (fun _ => rfl) (idx_get h27)
      refine OKS.r rfl rfl rfl rfl (fun _ => Runs.iaN rfl rfl hA32 rfl Try.runUnderlying23 Try.sizeOf3 (idx_lt h27)) ?_
      refine OKS.m rfl rfl rfl rfl (hS24.ldC (f := 0) hC33 (v := .int .i64 x26) rfl rfl Try.isAgg3 rfl) rfl ?_
      refine OKS.r rfl rfl rfl rfl (fun _ => Runs.mv rfl f20) ?_
      refine OKS.r rfl rfl rfl rfl (fun _ => Runs.mv rfl rfl) ?_
      obtain ⟨x34, h35, hm36⟩ := bnd hm28
      have h37 := ha1.le le17
      obtain ⟨b38, off39, hA40, hC41⟩ := h37.el (fun _ => rfl) (idx_get h35)
      refine OKS.r rfl rfl rfl rfl (fun _ => Runs.iaN rfl rfl hA40 rfl Try.runUnderlying23 Try.sizeOf3 (idx_lt h35)) ?_
      refine OKS.m rfl rfl rfl rfl (hS24.ldC (f := 0) hC41 (v := .int .i64 x34) rfl rfl Try.isAgg3 rfl) rfl ?_
      refine OKS.r rfl rfl rfl rfl (fun _ => Runs.neq rfl rfl rfl) ?_
      refine OKS.e ?_
      refine thenQ_n ?_
      by_cases c42 : x26 = x34
      · have hm43 := hm36; rw [if_pos c42] at hm43; replace c42 := Hid.mk c42
        refine CK.condF (decF (fun h => h c42.out)) ?_
        refine CK.skip ?_
        refine blockQ_n ?_
        refine thenQ_n ?_
        refine CK.reg (ks := []) (.fl 0 (.fl 1 (.nil))) rfl ?_
        refine OKS.r rfl rfl rfl rfl (fun _ => Runs.to (Runs.addw rfl fi15 rfl) (congrArg (Value.int .i64) hi23.out)) ?_
        refine OKS.r rfl rfl rfl rfl (fun _ => Runs.mv rfl rfl) ?_
        refine OKS.e ?_
        obtain rfl := Option.some.inj hm43
        exact thenQ_n ⟨rfl, _, rfl, ⟨φ16, rfl, f19, f20, f21, le17, hS24⟩⟩
      · have hm44 := hm36; rw [if_neg c42] at hm44; replace c42 := Hid.mk c42
        refine CK.condT (decT c42.out) ?_
        refine CK.seq ?_
        refine CK.reg (ks := []) (.fl 0 (.nil)) rfl ?_
        refine OKS.r rfl rfl rfl rfl (fun _ => Runs.as rfl rfl) ?_
        refine OKS.e ?_
        refine thenQ_n ?_
        refine CK.ret ?_
        refine blockQ_r ?_
        refine thenQ_r ?_
        obtain ⟨v45, hm46, e47⟩ := esc_spec hm44
        obtain rfl := jn_inr hm2 hX6 (hb13 v45 e47)
        refine thenQ_r ?_
        refine blockQ_r ?_
        refine thenQ_r ?_
        cases hm46
        exact ⟨rfl, _, (res1 rfl), φ16, _, hS24, rfl, rfl⟩
    · rintro ⟨⟩ σ48 W49 ⟨φ52, fi51, f55, f56, f57, le53, hS54⟩ hb50
      have hm58 := jn_inl hm2 hX6 hb50
      try dsimp only at hm58
      have c59 : Hid (¬ ((↑(((↑p0.length : Int) : Int) - 0).toNat : Int) < (↑p0.length : Int))) := Hid.mk (lp_end0)
      refine CK.seq ?_
      refine CK.reg (ks := []) (.fl 0 (.nil)) rfl ?_
      refine OKS.r rfl rfl rfl rfl (fun _ => Runs.lss rfl fi51 f57) ?_
      refine OKS.e ?_
      refine thenQ_n ?_
      refine CK.seq ?_
      refine CK.condF (decF c59.out) ?_
      refine CK.exit ?_
      refine thenQ_e ?_
      refine thenQ_e ?_
      refine blockQ_h ?_
      refine thenQ_n ?_
      refine CK.seq ?_
      refine CK.reg (ks := []) (.fl 0 (.nil)) rfl ?_
      refine OKS.r rfl rfl rfl rfl (fun _ => Runs.as rfl rfl) ?_
      refine OKS.e ?_
      refine thenQ_n ?_
      refine CK.ret ?_
      cases hm58
      exact ⟨rfl, _, (res1 rfl), φ52, _, hS54, rfl, rfl⟩
  · have hm60 := hm; rw [if_neg c1] at hm60; replace c1 := Hid.mk c1
    refine CK.condT (decT c1.out) ?_
    refine CK.seq ?_
    refine CK.reg (ks := []) (.fl 0 (.nil)) rfl ?_
    refine OKS.r rfl rfl rfl rfl (fun _ => Runs.as rfl rfl) ?_
    refine OKS.e ?_
    refine thenQ_n ?_
    refine CK.ret ?_
    refine thenQ_r ?_
    cases hm60
    exact ⟨rfl, _, (res1 rfl), φ, _, hS, rfl, rfl⟩

set_option maxHeartbeats 4000000 in
theorem w_target_Loops (p0 : Int) (p1 : List T_target_Shot) (pA1 : Option Addr) (pc1 : Nat) (w : World) (φ : PHeap) (hS : St ⟨w, [], φ⟩ φ [] w) (ha0 : Sl φ 2 pA1 pc1 p1.length (List.flatMap encT_target_Shot p1)) {r : Int × Int} (hm : m_target_Loops p0 p1 = some r) : Gv Try.prog 35 [.int .i64 p0, .slice pA1 p1.length pc1] w (RetS w [] φ (fun φ_ L_ v => v = .tuple #[.int .i64 r.1, .int .i64 r.2] ∧ L_ = [])) := by
  unfold m_target_Loops at hm
  refine Gv.of Try.func35 rfl Try.ntmps35 Try.results35 rfl ?_
  refine CK.seq ?_
  refine CK.reg (ks := []) (.fl 0 (.fl 1 (.nil))) rfl ?_
  refine OKS.r rfl rfl rfl rfl (fun _ => Runs.as rfl rfl) ?_
  refine OKS.r rfl rfl rfl rfl (fun _ => Runs.as rfl rfl) ?_
  refine OKS.e ?_
  refine thenQ_n ?_
  refine CK.seq ?_
  refine CK.reg (ks := []) (.fl 0 (.fl 1 (.fx 2 (.fl 3 (.fl 4 (.fl 5 (.fl 6 (.fl 7 (.nil)))))) .stop))) rfl ?_
  refine OKS.r rfl rfl rfl rfl (fun _ => Runs.mv rfl rfl) ?_
  refine OKS.r rfl rfl rfl rfl (fun _ => Runs.mv rfl rfl) ?_
  obtain ⟨⟨x1, x2⟩, h3, hm4⟩ := bnd hm
  try dsimp only at hm4
  refine OKS.callH 0 rfl rfl rfl rfl (Enters.mk rfl rfl Try.call32 (mapcons rfl (mapcons rfl mapnil)) rfl) hS (fun hs => w_target_Falls p0 p1 pA1 pc1 w φ hs ha0 h3) (.inr rfl) ?_
  rintro φ5 L6 v7 W8 le9 hS10 ⟨A11, c12, rfl, rfl⟩
  have hS14 : St ⟨w, [], φ⟩ φ5 [.row A11 c12 3 1 (List.flatMap encI x1)] W8 := hS10
  refine OKS.r rfl rfl rfl rfl (fun _ => Runs.mv rfl rfl) ?_
  refine OKS.r rfl rfl rfl rfl (fun _ => Runs.ext rfl rfl (v := .slice A11 x1.length c12) rfl) ?_
  refine OKS.r rfl rfl rfl rfl (fun _ => Runs.ext rfl rfl (v := .int .i64 x2) rfl) ?_
  refine OKS.r rfl rfl rfl rfl (fun _ => Runs.as rfl rfl) ?_
  refine OKS.r rfl rfl rfl rfl (fun _ => Runs.as rfl rfl) ?_
  refine OKS.e ?_
  refine thenQ_n ?_
  refine CK.seq ?_
  refine CK.seq ?_
  refine CK.reg (ks := []) (.fl 0 (.fl 1 (.nil))) rfl ?_
  refine OKS.r rfl rfl rfl rfl (fun _ => Runs.mv rfl rfl) ?_
  refine OKS.r rfl rfl rfl rfl (fun _ => Runs.neq rfl rfl rfl) ?_
  refine OKS.e ?_
  refine thenQ_n ?_
  by_cases c15 : x2 = 0
  · have hm16 := hm4; rw [if_pos c15] at hm16; replace c15 := Hid.mk c15
    refine CK.condF (decF (fun h => h c15.out)) ?_
    refine CK.skip ?_
    refine thenQ_n ?_
    refine CK.seq ?_
    refine CK.reg (ks := []) (.fl 0 (.nil)) rfl ?_
    refine OKS.r rfl rfl rfl rfl (fun _ => Runs.as rfl rfl) ?_
    refine OKS.e ?_
    refine thenQ_n ?_
    refine CK.seq ?_
    refine CK.seq ?_
    refine CK.reg (ks := []) (.fl 0 (.fl 1 (.fl 2 (.nil)))) rfl ?_
    refine OKS.r rfl rfl rfl rfl (fun _ => Runs.mv rfl rfl) ?_
    refine OKS.r rfl rfl rfl rfl (fun _ => Runs.len rfl rfl Try.runUnderlying23) ?_
    refine OKS.r rfl rfl rfl rfl (fun _ => Runs.mv rfl rfl) ?_
    refine OKS.e ?_
    refine thenQ_n ?_
    refine CK.block ?_
    obtain ⟨y28, hf25, hm24⟩ := bnd hm16
    obtain ⟨hle26, hf27⟩ := forR'_le hf25
    replace hle26 := Hid.mk hle26
    refine CK.forN' (fun k23 x22 σ_ w_ => ∃ (φ_ : PHeap), σ_ 22 = .int .i64 (↑k23 : Int) ∧ σ_ 8 = .int .i64 x22 ∧ σ_ 20 = .slice A11 x1.length c12 ∧ σ_ 21 = .int .i64 (↑x1.length : Int) ∧ PHeap.Le φ5 φ_ ∧ St ⟨w, [], φ⟩ φ_ [.row A11 c12 3 1 (List.flatMap encI x1)] w_) hf27 ?_ ?_ ?_
    · exact ⟨φ5, rfl, rfl, rfl, rfl, (PHeap.Le.refl _), hS14⟩
    · rintro k23 x22 xx31 σ29 W30 hk34 ⟨φ36, fi35, f39, f40, f41, le37, hS38⟩ hx32
      have c42 : Hid ((↑k23 : Int) < (↑x1.length : Int)) := Hid.mk (lp_lt0 hk34)
      replace hk34 := Hid.mk hk34
      have hi43 : Hid (w64 ((↑k23 : Int) + 1) = (↑(k23 + 1) : Int)) := Hid.mk (by have h1 := hle26.out; have h2 := c42.out; rw [w64_in] <;> omega)
      refine CK.seq ?_
      refine CK.reg (ks := []) (.fl 0 (.nil)) rfl ?_
      refine OKS.r rfl rfl rfl rfl (fun _ => Runs.lss rfl fi35 f41) ?_
      refine OKS.e ?_
      refine thenQ_n ?_
      refine CK.seq ?_
      refine CK.condT (decT c42.out) ?_
      refine CK.skip ?_
      refine thenQ_n ?_
      refine CK.seq ?_
      refine CK.block ?_
      refine CK.seq ?_
      refine CK.reg (ks := []) (.fl 0 (.fl 1 (.fl 2 (.nil)))) rfl ?_
      obtain ⟨_, h44, hm45⟩ := bnd hx32
      obtain ⟨b46, hA47⟩ := hS38.rowSome (j := 0) rfl (by rw [flatMap_len (f := encI) (sz := 1) (fun _ => rfl) x1]; have hz := chk_lt h44; omega)
      refine OKS.r rfl rfl rfl rfl (fun _ => Runs.iaN rfl f40 hA47 fi35 Try.runUnderlying23 Try.sizeOf3 (chk_lt h44)) ?_
      have hg48 := gd_at (xs := x1) (chk_lt h44)
      refine OKS.m rfl rfl rfl rfl (hS38.ldR (j := 0) rfl hA47 rfl rfl Try.isAgg3 (flatMap_cell (sz := 1) (fun _ => rfl) _ _ 0 _ hg48 (by omega) rfl)) rfl ?_
      refine OKS.r rfl rfl rfl rfl (fun _ => Runs.as rfl rfl) ?_
      refine OKS.e ?_
      refine thenQ_n ?_
      refine CK.seq ?_
      refine CK.reg (ks := []) (.fl 0 (.fl 1 (.nil))) rfl ?_
      refine OKS.r rfl rfl rfl rfl (fun _ => Runs.mv rfl rfl) ?_
      refine OKS.r rfl rfl rfl rfl (fun _ => Runs.gtr rfl rfl rfl) ?_
      refine OKS.e ?_
      refine thenQ_n ?_
      by_cases c49 : 0 < (gd x1 k23)
      · have hm50 := hm45; rw [if_pos c49] at hm50; replace c49 := Hid.mk c49
        refine CK.condT (decT c49.out) ?_
        refine CK.reg (ks := []) (.fl 0 (.fl 1 (.fl 2 (.nil)))) rfl ?_
        refine OKS.r rfl rfl rfl rfl (fun _ => Runs.mv rfl f39) ?_
        refine OKS.r rfl rfl rfl rfl (fun _ => Runs.subw rfl rfl rfl) ?_
        refine OKS.r rfl rfl rfl rfl (fun _ => Runs.as rfl rfl) ?_
        refine OKS.e ?_
        refine blockQ_n ?_
        refine thenQ_n ?_
        refine CK.reg (ks := []) (.fl 0 (.fl 1 (.nil))) rfl ?_
        refine OKS.r rfl rfl rfl rfl (fun _ => Runs.to (Runs.addw rfl fi35 rfl) (congrArg (Value.int .i64) hi43.out)) ?_
        refine OKS.r rfl rfl rfl rfl (fun _ => Runs.mv rfl rfl) ?_
        refine OKS.e ?_
        cases hm50
        exact thenQ_n ⟨rfl, ⟨φ36, rfl, rfl, f40, f41, le37, hS38⟩⟩
      · have hm52 := hm45; rw [if_neg c49] at hm52; replace c49 := Hid.mk c49
        refine CK.condF (decF c49.out) ?_
        refine CK.skip ?_
        refine blockQ_n ?_
        refine thenQ_n ?_
        refine CK.reg (ks := []) (.fl 0 (.fl 1 (.nil))) rfl ?_
        refine OKS.r rfl rfl rfl rfl (fun _ => Runs.to (Runs.addw rfl fi35 rfl) (congrArg (Value.int .i64) hi43.out)) ?_
        refine OKS.r rfl rfl rfl rfl (fun _ => Runs.mv rfl rfl) ?_
        refine OKS.e ?_
        cases hm52
        exact thenQ_n ⟨rfl, ⟨φ36, rfl, f39, f40, f41, le37, hS38⟩⟩
    · rintro σ54 W55 ⟨φ59, fi57, f62, f63, f64, le60, hS61⟩
      have c65 : Hid (¬ ((↑(((↑x1.length : Int) : Int) - 0).toNat : Int) < (↑x1.length : Int))) := Hid.mk (lp_end0)
      refine CK.seq ?_
      refine CK.reg (ks := []) (.fl 0 (.nil)) rfl ?_
      refine OKS.r rfl rfl rfl rfl (fun _ => Runs.lss rfl fi57 f64) ?_
      refine OKS.e ?_
      refine thenQ_n ?_
      refine CK.seq ?_
      refine CK.condF (decF c65.out) ?_
      refine CK.exit ?_
      refine thenQ_e ?_
      refine thenQ_e ?_
      refine blockQ_h ?_
      refine thenQ_n ?_
      refine CK.seq ?_
      refine CK.reg (ks := []) (.fl 0 (.fl 1 (.fl 2 (.nil)))) rfl ?_
      refine OKS.r rfl rfl rfl rfl (fun _ => Runs.mv rfl f62) ?_
      refine OKS.r rfl rfl rfl rfl (fun _ => Runs.as rfl rfl) ?_
      refine OKS.r rfl rfl rfl rfl (fun _ => Runs.as rfl rfl) ?_
      refine OKS.e ?_
      refine thenQ_n ?_
      refine CK.ret ?_
      cases hm24
      exact ⟨rfl, _, (res2 rfl rfl), φ59, _, (hS61.pick [] _ (by decide) rfl), rfl, rfl⟩
  · have hm66 := hm4; rw [if_neg c15] at hm66; replace c15 := Hid.mk c15
    refine CK.condT (decT c15.out) ?_
    refine CK.seq ?_
    refine CK.reg (ks := []) (.fl 0 (.fl 1 (.fl 2 (.nil)))) rfl ?_
    refine OKS.r rfl rfl rfl rfl (fun _ => Runs.mv rfl rfl) ?_
    refine OKS.r rfl rfl rfl rfl (fun _ => Runs.as rfl rfl) ?_
    refine OKS.r rfl rfl rfl rfl (fun _ => Runs.as rfl rfl) ?_
    refine OKS.e ?_
    refine thenQ_n ?_
    refine CK.ret ?_
    refine thenQ_r ?_
    cases hm66
    exact ⟨rfl, _, (res2 rfl rfl), φ5, _, (hS14.pick [] _ (by decide) rfl), rfl, rfl⟩

set_option maxHeartbeats 4000000 in
theorem w_target_Spares (p0 : Int) (p1 : List T_target_Shot) (pA1 : Option Addr) (pc1 : Nat) (w : World) (φ : PHeap) (hS : St ⟨w, [], φ⟩ φ [] w) (ha0 : Sl φ 2 pA1 pc1 p1.length (List.flatMap encT_target_Shot p1)) {r : Int × Int} (hm : m_target_Spares p0 p1 = some r) : Gv Try.prog 36 [.int .i64 p0, .slice pA1 p1.length pc1] w (RetS w [] φ (fun φ_ L_ v => v = .tuple #[.int .i64 r.1, .int .i64 r.2] ∧ L_ = [])) := by
  unfold m_target_Spares at hm
  refine Gv.of Try.func36 rfl Try.ntmps36 Try.results36 rfl ?_
  refine CK.seq ?_
  refine CK.reg (ks := []) (.fl 0 (.fl 1 (.nil))) rfl ?_
  refine OKS.r rfl rfl rfl rfl (fun _ => Runs.as rfl rfl) ?_
  refine OKS.r rfl rfl rfl rfl (fun _ => Runs.as rfl rfl) ?_
  refine OKS.e ?_
  refine thenQ_n ?_
  refine CK.seq ?_
  refine CK.reg (ks := []) (.fl 0 (.fl 1 (.fx 2 (.fl 3 (.fl 4 (.fl 5 (.fl 6 (.fl 7 (.nil)))))) .stop))) rfl ?_
  refine OKS.r rfl rfl rfl rfl (fun _ => Runs.mv rfl rfl) ?_
  refine OKS.r rfl rfl rfl rfl (fun _ => Runs.mv rfl rfl) ?_
  obtain ⟨⟨x1, x2⟩, h3, hm4⟩ := bnd hm
  try dsimp only at hm4
  refine OKS.callH 0 rfl rfl rfl rfl (Enters.mk rfl rfl Try.call32 (mapcons rfl (mapcons rfl mapnil)) rfl) hS (fun hs => w_target_Falls p0 p1 pA1 pc1 w φ hs ha0 h3) (.inr rfl) ?_
  rintro φ5 L6 v7 W8 le9 hS10 ⟨A11, c12, rfl, rfl⟩
  have hS14 : St ⟨w, [], φ⟩ φ5 [.row A11 c12 3 1 (List.flatMap encI x1)] W8 := hS10
  refine OKS.r rfl rfl rfl rfl (fun _ => Runs.mv rfl rfl) ?_
  refine OKS.r rfl rfl rfl rfl (fun _ => Runs.ext rfl rfl (v := .slice A11 x1.length c12) rfl) ?_
  refine OKS.r rfl rfl rfl rfl (fun _ => Runs.ext rfl rfl (v := .int .i64 x2) rfl) ?_
  refine OKS.r rfl rfl rfl rfl (fun _ => Runs.as rfl rfl) ?_
  refine OKS.r rfl rfl rfl rfl (fun _ => Runs.as rfl rfl) ?_
  refine OKS.e ?_
  refine thenQ_n ?_
  refine CK.seq ?_
  refine CK.seq ?_
  refine CK.reg (ks := []) (.fl 0 (.fl 1 (.nil))) rfl ?_
  refine OKS.r rfl rfl rfl rfl (fun _ => Runs.mv rfl rfl) ?_
  refine OKS.r rfl rfl rfl rfl (fun _ => Runs.neq rfl rfl rfl) ?_
  refine OKS.e ?_
  refine thenQ_n ?_
  by_cases c15 : x2 = 0
  · have hm16 := hm4; rw [if_pos c15] at hm16; replace c15 := Hid.mk c15
    refine CK.condF (decF (fun h => h c15.out)) ?_
    refine CK.skip ?_
    refine thenQ_n ?_
    refine CK.seq ?_
    refine CK.reg (ks := []) (.fl 0 (.fl 1 (.fl 2 (.fl 3 (.fl 4 (.fl 5 (.nil))))))) rfl ?_
    refine OKS.r rfl rfl rfl rfl (fun _ => Runs.mv rfl rfl) ?_
    refine OKS.r rfl rfl rfl rfl (fun _ => Runs.len rfl rfl Try.runUnderlying23) ?_
    refine OKS.r rfl rfl rfl rfl (fun _ => Runs.subw rfl rfl rfl) ?_
    refine OKS.r rfl rfl rfl rfl (fun _ => Runs.max rfl rfl rfl) ?_
    refine OKS.r rfl rfl rfl rfl (fun _ => Runs.as rfl rfl) ?_
    refine OKS.r rfl rfl rfl rfl (fun _ => Runs.as rfl rfl) ?_
    refine OKS.e ?_
    refine thenQ_n ?_
    refine CK.ret ?_
    cases hm16
    exact ⟨rfl, _, (res2 rfl rfl), φ5, _, (hS14.pick [] _ (by decide) rfl), rfl, rfl⟩
  · have hm17 := hm4; rw [if_neg c15] at hm17; replace c15 := Hid.mk c15
    refine CK.condT (decT c15.out) ?_
    refine CK.seq ?_
    refine CK.reg (ks := []) (.fl 0 (.fl 1 (.fl 2 (.nil)))) rfl ?_
    refine OKS.r rfl rfl rfl rfl (fun _ => Runs.mv rfl rfl) ?_
    refine OKS.r rfl rfl rfl rfl (fun _ => Runs.as rfl rfl) ?_
    refine OKS.r rfl rfl rfl rfl (fun _ => Runs.as rfl rfl) ?_
    refine OKS.e ?_
    refine thenQ_n ?_
    refine CK.ret ?_
    refine thenQ_r ?_
    cases hm17
    exact ⟨rfl, _, (res2 rfl rfl), φ5, _, (hS14.pick [] _ (by decide) rfl), rfl, rfl⟩

set_option maxHeartbeats 4000000 in
theorem w_klisterkit_Equal_target_Shot (p0 : List T_target_Shot) (pA0 : Option Addr) (pc0 : Nat) (p1 : List T_target_Shot) (pA1 : Option Addr) (pc1 : Nat) (w : World) (φ : PHeap) (hS : St ⟨w, [], φ⟩ φ [] w) (ha0 : Sl φ 2 pA0 pc0 p0.length (List.flatMap encT_target_Shot p0)) (ha1 : Sl φ 2 pA1 pc1 p1.length (List.flatMap encT_target_Shot p1)) {r : Bool} (hm : m_klisterkit_Equal_target_Shot p0 p1 = some r) : Gv Try.prog 37 [.slice pA0 p0.length pc0, .slice pA1 p1.length pc1] w (RetS w [] φ (fun φ_ L_ v => v = .bool r ∧ L_ = [])) := by
  unfold m_klisterkit_Equal_target_Shot at hm
  refine Gv.of Try.func37 rfl Try.ntmps37 Try.results37 rfl ?_
  refine CK.seq ?_
  refine CK.reg (ks := []) (.fl 0 (.nil)) rfl ?_
  refine OKS.r rfl rfl rfl rfl (fun _ => Runs.as rfl rfl) ?_
  refine OKS.e ?_
  refine thenQ_n ?_
  refine CK.seq ?_
  refine CK.seq ?_
  refine CK.reg (ks := []) (.fl 0 (.fl 1 (.fl 2 (.fl 3 (.fl 4 (.nil)))))) rfl ?_
  refine OKS.r rfl rfl rfl rfl (fun _ => Runs.mv rfl rfl) ?_
  refine OKS.r rfl rfl rfl rfl (fun _ => Runs.len rfl rfl Try.runUnderlying56) ?_
  refine OKS.r rfl rfl rfl rfl (fun _ => Runs.mv rfl rfl) ?_
  refine OKS.r rfl rfl rfl rfl (fun _ => Runs.len rfl rfl Try.runUnderlying56) ?_
  refine OKS.r rfl rfl rfl rfl (fun _ => Runs.neq rfl rfl rfl) ?_
  refine OKS.e ?_
  refine thenQ_n ?_
  by_cases c1 : (↑p0.length : Int) = (↑p1.length : Int)
  · have hm2 := hm; rw [if_pos c1] at hm2; replace c1 := Hid.mk c1
    refine CK.condF (decF (fun h => h c1.out)) ?_
    refine CK.skip ?_
    refine thenQ_n ?_
    refine CK.seq ?_
    refine CK.seq ?_
    refine CK.reg (ks := []) (.fl 0 (.fl 1 (.fl 2 (.nil)))) rfl ?_
    refine OKS.r rfl rfl rfl rfl (fun _ => Runs.mv rfl rfl) ?_
    refine OKS.r rfl rfl rfl rfl (fun _ => Runs.len rfl rfl Try.runUnderlying56) ?_
    refine OKS.r rfl rfl rfl rfl (fun _ => Runs.mv rfl rfl) ?_
    refine OKS.e ?_
    refine thenQ_n ?_
    refine CK.block ?_
    obtain ⟨r5, hX6⟩ := jn_some hm2
    obtain ⟨hle7, hf8⟩ := forR_le hX6
    replace hle7 := Hid.mk hle7
    refine CK.forN (fun k4 _ σ_ w_ => ∃ (φ_ : PHeap), σ_ 13 = .int .i64 (↑k4 : Int) ∧ σ_ 0 = .slice pA0 p0.length pc0 ∧ σ_ 1 = .slice pA1 p1.length pc1 ∧ σ_ 12 = .int .i64 (↑p0.length : Int) ∧ PHeap.Le φ φ_ ∧ St ⟨w, [], φ⟩ φ_ [] w_) hf8 ?_ ?_ ?_
    · exact ⟨φ, rfl, rfl, rfl, rfl, (PHeap.Le.refl _), hS⟩
    · rintro k4 ⟨⟩ xx11 σ9 W10 hk14 ⟨φ16, fi15, f19, f20, f21, le17, hS18⟩ hx12 hb13
      try dsimp only at hx12
      have c22 : Hid ((↑k4 : Int) < (↑p0.length : Int)) := Hid.mk (lp_lt0 hk14)
      replace hk14 := Hid.mk hk14
      have hi23 : Hid (w64 ((↑k4 : Int) + 1) = (↑(k4 + 1) : Int)) := Hid.mk (by have h1 := hle7.out; have h2 := c22.out; rw [w64_in] <;> omega)
      refine CK.seq ?_
      refine CK.reg (ks := []) (.fl 0 (.nil)) rfl ?_
      refine OKS.r rfl rfl rfl rfl (fun _ => Runs.lss rfl fi15 f21) ?_
      refine OKS.e ?_
      refine thenQ_n ?_
      refine CK.seq ?_
      refine CK.condT (decT c22.out) ?_
      refine CK.skip ?_
      refine thenQ_n ?_
      refine CK.seq ?_
      refine CK.block ?_
      refine CK.seq ?_
      refine CK.reg (ks := []) (.fl 0 (.fl 1 (.nil))) rfl ?_
      refine OKS.r rfl rfl rfl rfl (fun _ => Runs.mv rfl fi15) ?_
      refine OKS.r rfl rfl rfl rfl (fun _ => Runs.as rfl rfl) ?_
      refine OKS.e ?_
      refine thenQ_n ?_
      refine CK.seq ?_
      refine CK.anyOrd Try.mixed [3, 3, 3, 1, 3, 3, 3, 1, 3] (.fl 0 (.fl 1 (.fl 2 (.fl 3 (.fl 4 (.fl 5 (.fl 6 (.fl 7 (.fl 8 (.nil)))))))))) (by kernel_rfl) ?_
      have hS24 := hS18.drew
      generalize hw_W25 : ({ W10 with drawn := W10.drawn + 1 } : World) = W25 at hS24 ⊢
      refine OKS.r rfl rfl rfl rfl (fun _ => Runs.mv rfl f19) ?_
      refine OKS.r rfl rfl rfl rfl (fun _ => Runs.mv rfl rfl) ?_
      obtain ⟨x26, h27, hm28⟩ := bnd hx12
      have h29 := ha0.le le17
      obtain ⟨b30, off31, hA32, hC33⟩ := h29.el (fun _ => rfl) (idx_get h27)
      refine OKS.r rfl rfl rfl rfl (fun _ => Runs.iaN rfl rfl hA32 rfl Try.runUnderlying56 Try.sizeOf59 (idx_lt h27)) ?_
      refine OKS.m rfl rfl rfl rfl (hS24.ldCA (f := 0) hC33 rfl rfl Try.isAgg59 Try.sizeOf59 (us := [.int .i64 x26.X, .int .i64 x26.Y]) rfl rfl) rfl ?_
      refine OKS.r rfl rfl rfl rfl (fun _ => Runs.mv rfl f20) ?_
      refine OKS.r rfl rfl rfl rfl (fun _ => Runs.mv rfl rfl) ?_
      obtain ⟨x34, h35, hm36⟩ := bnd hm28
      have h37 := ha1.le le17
      obtain ⟨b38, off39, hA40, hC41⟩ := h37.el (fun _ => rfl) (idx_get h35)
      refine OKS.r rfl rfl rfl rfl (fun _ => Runs.iaN rfl rfl hA40 rfl Try.runUnderlying56 Try.sizeOf59 (idx_lt h35)) ?_
      refine OKS.m rfl rfl rfl rfl (hS24.ldCA (f := 0) hC41 rfl rfl Try.isAgg59 Try.sizeOf59 (us := [.int .i64 x34.X, .int .i64 x34.Y]) rfl rfl) rfl ?_
      refine OKS.r rfl rfl rfl rfl (fun _ => Runs.to (Runs.neS (enc := encT_target_Shot) (a := x26) (b := x34) rfl rfl rfl eqT59 eqG59) (congrArg Value.bool (decide_not).symm)) ?_
      refine OKS.e ?_
      refine thenQ_n ?_
      by_cases c42 : x26 = x34
      · have hm43 := hm36; rw [if_pos c42] at hm43; replace c42 := Hid.mk c42
        refine CK.condF (decF (fun h => h c42.out)) ?_
        refine CK.skip ?_
        refine blockQ_n ?_
        refine thenQ_n ?_
        refine CK.reg (ks := []) (.fl 0 (.fl 1 (.nil))) rfl ?_
        refine OKS.r rfl rfl rfl rfl (fun _ => Runs.to (Runs.addw rfl fi15 rfl) (congrArg (Value.int .i64) hi23.out)) ?_
        refine OKS.r rfl rfl rfl rfl (fun _ => Runs.mv rfl rfl) ?_
        refine OKS.e ?_
        obtain rfl := Option.some.inj hm43
        exact thenQ_n ⟨rfl, _, rfl, ⟨φ16, rfl, f19, f20, f21, le17, hS24⟩⟩
      · have hm44 := hm36; rw [if_neg c42] at hm44; replace c42 := Hid.mk c42
        refine CK.condT (decT c42.out) ?_
        refine CK.seq ?_
        refine CK.reg (ks := []) (.fl 0 (.nil)) rfl ?_
        refine OKS.r rfl rfl rfl rfl (fun _ => Runs.as rfl rfl) ?_
        refine OKS.e ?_
        refine thenQ_n ?_
        refine CK.ret ?_
        refine blockQ_r ?_
        refine thenQ_r ?_
        obtain ⟨v45, hm46, e47⟩ := esc_spec hm44
        obtain rfl := jn_inr hm2 hX6 (hb13 v45 e47)
        refine thenQ_r ?_
        refine blockQ_r ?_
        refine thenQ_r ?_
        cases hm46
        exact ⟨rfl, _, (res1 rfl), φ16, _, hS24, rfl, rfl⟩
    · rintro ⟨⟩ σ48 W49 ⟨φ52, fi51, f55, f56, f57, le53, hS54⟩ hb50
      have hm58 := jn_inl hm2 hX6 hb50
      try dsimp only at hm58
      have c59 : Hid (¬ ((↑(((↑p0.length : Int) : Int) - 0).toNat : Int) < (↑p0.length : Int))) := Hid.mk (lp_end0)
      refine CK.seq ?_
      refine CK.reg (ks := []) (.fl 0 (.nil)) rfl ?_
      refine OKS.r rfl rfl rfl rfl (fun _ => Runs.lss rfl fi51 f57) ?_
      refine OKS.e ?_
      refine thenQ_n ?_
      refine CK.seq ?_
      refine CK.condF (decF c59.out) ?_
      refine CK.exit ?_
      refine thenQ_e ?_
      refine thenQ_e ?_
      refine blockQ_h ?_
      refine thenQ_n ?_
      refine CK.seq ?_
      refine CK.reg (ks := []) (.fl 0 (.nil)) rfl ?_
      refine OKS.r rfl rfl rfl rfl (fun _ => Runs.as rfl rfl) ?_
      refine OKS.e ?_
      refine thenQ_n ?_
      refine CK.ret ?_
      cases hm58
      exact ⟨rfl, _, (res1 rfl), φ52, _, hS54, rfl, rfl⟩
  · have hm60 := hm; rw [if_neg c1] at hm60; replace c1 := Hid.mk c1
    refine CK.condT (decT c1.out) ?_
    refine CK.seq ?_
    refine CK.reg (ks := []) (.fl 0 (.nil)) rfl ?_
    refine OKS.r rfl rfl rfl rfl (fun _ => Runs.as rfl rfl) ?_
    refine OKS.e ?_
    refine thenQ_n ?_
    refine CK.ret ?_
    refine thenQ_r ?_
    cases hm60
    exact ⟨rfl, _, (res1 rfl), φ, _, hS, rfl, rfl⟩

set_option maxHeartbeats 4000000 in
theorem w_klisterlaw03_TargetFalls (p0 : Int) (p1 : List T_target_Shot) (pA1 : Option Addr) (pc1 : Nat) (w : World) (φ : PHeap) (hS : St ⟨w, [], φ⟩ φ [] w) (ha0 : Sl φ 2 pA1 pc1 p1.length (List.flatMap encT_target_Shot p1)) {r : Bool} (hm : m_klisterlaw03_TargetFalls p0 p1 = some r) : Gv Try.prog 5 [.int .i64 p0, .slice pA1 p1.length pc1] w (RetS w [] φ (fun φ_ L_ v => v = .bool r ∧ L_ = [])) := by
  unfold m_klisterlaw03_TargetFalls at hm
  refine Gv.of Try.func5 rfl Try.ntmps5 Try.results5 rfl ?_
  refine CK.seq ?_
  refine CK.reg (ks := []) (.fl 0 (.nil)) rfl ?_
  refine OKS.r rfl rfl rfl rfl (fun _ => Runs.as rfl rfl) ?_
  refine OKS.e ?_
  refine thenQ_n ?_
  refine CK.seq ?_
  refine CK.seq ?_
  refine CK.reg (ks := []) (.fl 0 (.fl 1 (.fl 2 (.nil)))) rfl ?_
  refine OKS.r rfl rfl rfl rfl (fun _ => Runs.mv rfl rfl) ?_
  refine OKS.r rfl rfl rfl rfl (fun _ => Runs.len rfl rfl Try.runUnderlying56) ?_
  refine OKS.r rfl rfl rfl rfl (fun _ => Runs.gtr rfl rfl rfl) ?_
  refine OKS.e ?_
  refine thenQ_n ?_
  by_cases c1 : 12 < (↑p1.length : Int)
  · have hm2 := hm; rw [if_pos c1] at hm2; replace c1 := Hid.mk c1
    refine CK.condT (decT c1.out) ?_
    refine CK.seq ?_
    refine CK.reg (ks := []) (.fx 0 (.fl 1 (.nil)) .stop) rfl ?_
    obtain ⟨x3, h4, hm5⟩ := bnd hm2
    refine OKS.callH 0 rfl rfl rfl rfl (Enters.mk rfl rfl Try.call24 mapnil rfl) hS (fun hs => w_klisterlaw03_awake w φ hs h4) (.inr rfl) ?_
    rintro φ6 L7 v8 W9 le10 hS11 ⟨rfl, rfl⟩
    have hS12 : St ⟨w, [], φ⟩ φ6 [] W9 := hS11
    refine OKS.r rfl rfl rfl rfl (fun _ => Runs.as rfl rfl) ?_
    refine OKS.e ?_
    refine thenQ_n ?_
    refine CK.ret ?_
    refine thenQ_r ?_
    cases hm5
    exact ⟨rfl, _, (res1 rfl), φ6, _, hS12, rfl, rfl⟩
  · have hm13 := hm; rw [if_neg c1] at hm13; replace c1 := Hid.mk c1
    refine CK.condF (decF c1.out) ?_
    refine CK.skip ?_
    refine thenQ_n ?_
    refine CK.seq ?_
    refine CK.reg (ks := []) (.fl 0 (.fx 1 (.fl 2 (.nil)) .stop)) rfl ?_
    refine OKS.r rfl rfl rfl rfl (fun _ => Runs.mv rfl rfl) ?_
    obtain ⟨x14, h15, hm16⟩ := bnd hm13
    refine OKS.callH 0 rfl rfl rfl rfl (Enters.mk rfl rfl Try.call31 (mapcons rfl mapnil) rfl) hS (fun hs => w_klisterkit_Clone_target_Shot p1 pA1 pc1 w φ hs ha0 h15) (.inr rfl) ?_
    rintro φ17 L18 v19 W20 le21 hS22 ⟨A23, c24, rfl, rfl⟩
    have hS26 : St ⟨w, [], φ⟩ φ17 [.row A23 c24 59 2 (List.flatMap encT_target_Shot x14)] W20 := hS22
    refine OKS.r rfl rfl rfl rfl (fun _ => Runs.as rfl rfl) ?_
    refine OKS.e ?_
    refine thenQ_n ?_
    refine CK.seq ?_
    refine CK.reg (ks := []) (.fl 0 (.nil)) rfl ?_
    refine OKS.r rfl rfl rfl rfl (fun _ => Runs.as rfl rfl) ?_
    refine OKS.e ?_
    refine thenQ_n ?_
    refine CK.seq ?_
    refine CK.seq ?_
    refine CK.reg (ks := []) (.fl 0 (.fl 1 (.fl 2 (.nil)))) rfl ?_
    refine OKS.r rfl rfl rfl rfl (fun _ => Runs.mv rfl rfl) ?_
    refine OKS.r rfl rfl rfl rfl (fun _ => Runs.len rfl rfl Try.runUnderlying56) ?_
    refine OKS.r rfl rfl rfl rfl (fun _ => Runs.mv rfl rfl) ?_
    refine OKS.e ?_
    refine thenQ_n ?_
    refine CK.block ?_
    obtain ⟨y49, hf46, hm45⟩ := bnd hm16
    obtain ⟨hle47, hf48⟩ := forR'_le hf46
    replace hle47 := Hid.mk hle47
    refine CK.forN' (fun k44 l40 σ_ w_ => ∃ (φ_ : PHeap) (A41 : Option Addr) (c42 : Nat), σ_ 28 = .int .i64 (↑k44 : Int) ∧ σ_ 0 = .int .i64 p0 ∧ σ_ 1 = .slice pA1 p1.length pc1 ∧ σ_ 5 = .slice A23 x14.length c24 ∧ σ_ 6 = .slice A41 l40.length c42 ∧ σ_ 26 = .slice pA1 p1.length pc1 ∧ σ_ 27 = .int .i64 (↑p1.length : Int) ∧ PHeap.Le φ17 φ_ ∧ St ⟨w, [], φ⟩ φ_ [.row A23 c24 59 2 (List.flatMap encT_target_Shot x14), .row A41 c42 61 2 (List.flatMap encT_klisterref03_Shot l40)] w_) hf48 ?_ ?_ ?_
    · have hS50 := hS26.nilrow 61 2
      exact ⟨φ17, none, 0, rfl, rfl, rfl, rfl, rfl, rfl, rfl, (PHeap.Le.refl _), (hS50.pick [1, 0] _ (by decide) rfl)⟩
    · rintro k44 l40 xx54 σ52 W53 hk57 ⟨φ59, A41, c42, fi58, f62, f63, f64, f65, f66, f67, le60, hS61⟩ hx55
      have c68 : Hid ((↑k44 : Int) < (↑p1.length : Int)) := Hid.mk (lp_lt0 hk57)
      replace hk57 := Hid.mk hk57
      have hi69 : Hid (w64 ((↑k44 : Int) + 1) = (↑(k44 + 1) : Int)) := Hid.mk (by have h1 := hle47.out; have h2 := c68.out; rw [w64_in] <;> omega)
      refine CK.seq ?_
      refine CK.reg (ks := []) (.fl 0 (.nil)) rfl ?_
      refine OKS.r rfl rfl rfl rfl (fun _ => Runs.lss rfl fi58 f67) ?_
      refine OKS.e ?_
      refine thenQ_n ?_
      refine CK.seq ?_
      refine CK.condT (decT c68.out) ?_
      refine CK.skip ?_
      refine thenQ_n ?_
      refine CK.seq ?_
      refine CK.block ?_
      refine CK.seq ?_
      refine CK.reg (ks := []) (.fl 0 (.fl 1 (.fx 2 (.fx 3 (.nil) .stop) .stop))) rfl ?_
      obtain ⟨x70, h71, hm72⟩ := bnd hx55
      have h73 := ha0.le le21
      have h74 := h73.le le60
      obtain ⟨b75, off76, hA77, hC78⟩ := h74.el (fun _ => rfl) (idx_get h71)
      refine OKS.r rfl rfl rfl rfl (fun _ => Runs.iaN rfl f66 hA77 fi58 Try.runUnderlying56 Try.sizeOf59 (idx_lt h71)) ?_
      refine OKS.m rfl rfl rfl rfl (hS61.ldCA (f := 0) hC78 rfl rfl Try.isAgg59 Try.sizeOf59 (us := [.int .i64 x70.X, .int .i64 x70.Y]) rfl rfl) rfl ?_
      refine OKS.alloc (cs := [.int .i64 0, .int .i64 0]) rfl rfl rfl rfl rfl Try.zeroValue59 rfl hS61 ?_
      intro W79 b80 hS81
      refine OKS.st (j := 0) (vs := [.int .i64 x70.X, .int .i64 x70.Y]) rfl rfl rfl rfl hS81 rfl rfl rfl rfl Try.sizeOf59 (Nat.le_of_ble_eq_true rfl) rfl rfl rfl ?_
      intro W83 hS84
      have hS85 : St ⟨w, [], φ⟩ φ59 [.blk b80 59 [.int .i64 x70.X, .int .i64 x70.Y], .row A23 c24 59 2 (List.flatMap encT_target_Shot x14), .row A41 c42 61 2 (List.flatMap encT_klisterref03_Shot l40)] W83 := hS84
      refine OKS.e ?_
      refine thenQ_n ?_
      refine CK.reg (ks := []) (.fl 0 (.fl 1 (.fx 2 (.fx 3 (.fl 4 (.nil)) .stop) .stop))) rfl ?_
      refine OKS.r rfl rfl rfl rfl (fun _ => Runs.mv rfl f65) ?_
      refine OKS.m rfl rfl rfl rfl (hS85.ldBA (j := 0) rfl rfl rfl Try.isAgg59 Try.sizeOf59 (vs := [.int .i64 x70.X, .int .i64 x70.Y]) rfl rfl) rfl ?_
      refine OKS.buildSlice (pv := [(0, .agg #[.int .i64 x70.X, .int .i64 x70.Y])]) (zs := [.int .i64 0, .int .i64 0]) (cs := [.int .i64 x70.X, .int .i64 x70.Y]) rfl rfl rfl rfl rfl (mapcons2 rfl mapnil2) Try.runUnderlying60 Try.sizeOf61 Try.zeroValue61 rfl rfl rfl rfl rfl hS85 ?_
      intro W86 b87 hS88
      have hS90 : St ⟨w, [], φ⟩ φ59 [.row (some ⟨b87, 0, none⟩) 1 61 2 (List.flatMap encT_klisterref03_Shot [(⟨x70.X, x70.Y⟩ : T_klisterref03_Shot)]), .blk b80 59 [.int .i64 x70.X, .int .i64 x70.Y], .row A23 c24 59 2 (List.flatMap encT_target_Shot x14), .row A41 c42 61 2 (List.flatMap encT_klisterref03_Shot l40)] W86 := hS88
      obtain ⟨x91, h92, hm93⟩ := bnd hm72
      refine OKS.append (j := 3) (enc := encT_klisterref03_Shot) (xs := l40) (ys := [(⟨x70.X, x70.Y⟩ : T_klisterref03_Shot)]) (zs := x91) rfl rfl rfl rfl rfl Try.underlying60 info61 rfl rfl rfl rfl rfl rfl hS90 rfl rfl rfl (hS90.srcR (j := 0) rfl (by decide) (flatMap_len (f := encT_klisterref03_Shot) (sz := 2) (fun _ => rfl) [(⟨x70.X, x70.Y⟩ : T_klisterref03_Shot)])) (fun _ => rfl) (fun _ => rfl) h92 rfl ?_
      intro A94 c95 W96 hS97
      have hS98 : St ⟨w, [], φ⟩ φ59 [.row (some ⟨b87, 0, none⟩) 1 61 2 (List.flatMap encT_klisterref03_Shot [(⟨x70.X, x70.Y⟩ : T_klisterref03_Shot)]), .blk b80 59 [.int .i64 x70.X, .int .i64 x70.Y], .row A23 c24 59 2 (List.flatMap encT_target_Shot x14), .row A94 c95 61 2 (List.flatMap encT_klisterref03_Shot x91)] W96 := hS97
      refine OKS.r rfl rfl rfl rfl (fun _ => Runs.as rfl rfl) ?_
      refine OKS.e ?_
      refine blockQ_n ?_
      refine thenQ_n ?_
      refine CK.reg (ks := []) (.fl 0 (.fl 1 (.nil))) rfl ?_
      refine OKS.r rfl rfl rfl rfl (fun _ => Runs.to (Runs.addw rfl fi58 rfl) (congrArg (Value.int .i64) hi69.out)) ?_
      refine OKS.r rfl rfl rfl rfl (fun _ => Runs.mv rfl rfl) ?_
      refine OKS.e ?_
      cases hm93
      exact thenQ_n ⟨rfl, ⟨φ59, A94, c95, rfl, f62, f63, f64, rfl, f66, f67, le60, (hS98.pick [2, 3] _ (by decide) rfl)⟩⟩
    · rintro σ102 W103 ⟨φ111, A109, c110, fi105, f114, f115, f116, f117, f118, f119, le112, hS113⟩
      have c120 : Hid (¬ ((↑(((↑p1.length : Int) : Int) - 0).toNat : Int) < (↑p1.length : Int))) := Hid.mk (lp_end0)
      refine CK.seq ?_
      refine CK.reg (ks := []) (.fl 0 (.nil)) rfl ?_
      refine OKS.r rfl rfl rfl rfl (fun _ => Runs.lss rfl fi105 f119) ?_
      refine OKS.e ?_
      refine thenQ_n ?_
      refine CK.seq ?_
      refine CK.condF (decF c120.out) ?_
      refine CK.exit ?_
      refine thenQ_e ?_
      refine thenQ_e ?_
      refine blockQ_h ?_
      refine thenQ_n ?_
      refine CK.seq ?_
      refine CK.reg (ks := []) (.fl 0 (.fl 1 (.fx 2 (.fl 3 (.fl 4 (.fl 5 (.fl 6 (.fl 7 (.nil)))))) .stop))) rfl ?_
      refine OKS.r rfl rfl rfl rfl (fun _ => Runs.mv rfl f114) ?_
      refine OKS.r rfl rfl rfl rfl (fun _ => Runs.mv rfl f116) ?_
      obtain ⟨φ121, le122, hs123, hS124⟩ := hS113.freezeR (k := 0) (n := x14.length) rfl (flatMap_len (f := encT_target_Shot) (sz := 2) (fun _ => rfl) x14) (by decide)
      have hS125 : St ⟨w, [], φ⟩ φ121 [.row A109 c110 61 2 (List.flatMap encT_klisterref03_Shot y49)] W103 := hS124
      obtain ⟨⟨x126, x127⟩, h128, hm129⟩ := bnd hm45
      try dsimp only at hm129
      refine OKS.callH 0 rfl rfl rfl rfl (Enters.mk rfl rfl Try.call32 (mapcons rfl (mapcons rfl mapnil)) rfl) hS125 (fun hs => w_target_Falls p0 x14 A23 c24 W103 φ121 hs hs123 h128) (.inr rfl) ?_
      rintro φ130 L131 v132 W133 le134 hS135 ⟨A136, c137, rfl, rfl⟩
      have hS139 : St ⟨w, [], φ⟩ φ130 [.row A136 c137 3 1 (List.flatMap encI x126), .row A109 c110 61 2 (List.flatMap encT_klisterref03_Shot y49)] W133 := hS135
      refine OKS.r rfl rfl rfl rfl (fun _ => Runs.mv rfl rfl) ?_
      refine OKS.r rfl rfl rfl rfl (fun _ => Runs.ext rfl rfl (v := .slice A136 x126.length c137) rfl) ?_
      refine OKS.r rfl rfl rfl rfl (fun _ => Runs.ext rfl rfl (v := .int .i64 x127) rfl) ?_
      refine OKS.r rfl rfl rfl rfl (fun _ => Runs.as rfl rfl) ?_
      refine OKS.r rfl rfl rfl rfl (fun _ => Runs.as rfl rfl) ?_
      refine OKS.e ?_
      refine thenQ_n ?_
      refine CK.seq ?_
      refine CK.reg (ks := []) (.fl 0 (.fl 1 (.fx 2 (.fl 3 (.fl 4 (.fl 5 (.fl 6 (.fl 7 (.nil)))))) .stop))) rfl ?_
      refine OKS.r rfl rfl rfl rfl (fun _ => Runs.mv rfl f114) ?_
      refine OKS.r rfl rfl rfl rfl (fun _ => Runs.mv rfl f117) ?_
      obtain ⟨φ140, le141, hs142, hS143⟩ := hS139.freezeR (k := 1) (n := y49.length) rfl (flatMap_len (f := encT_klisterref03_Shot) (sz := 2) (fun _ => rfl) y49) (by decide)
      have hS144 : St ⟨w, [], φ⟩ φ140 [.row A136 c137 3 1 (List.flatMap encI x126)] W133 := hS143
      obtain ⟨⟨x145, x146⟩, h147, hm148⟩ := bnd hm129
      try dsimp only at hm148
      refine OKS.callH 0 rfl rfl rfl rfl (Enters.mk rfl rfl Try.call33 (mapcons rfl (mapcons rfl mapnil)) rfl) hS144 (fun hs => w_klisterref03_Falls p0 y49 A109 c110 W133 φ140 hs hs142 h147) (.inr rfl) ?_
      rintro φ149 L150 v151 W152 le153 hS154 ⟨A155, c156, rfl, rfl⟩
      have hS158 : St ⟨w, [], φ⟩ φ149 [.row A155 c156 3 1 (List.flatMap encI x145), .row A136 c137 3 1 (List.flatMap encI x126)] W152 := hS154
      refine OKS.r rfl rfl rfl rfl (fun _ => Runs.mv rfl rfl) ?_
      refine OKS.r rfl rfl rfl rfl (fun _ => Runs.ext rfl rfl (v := .slice A155 x145.length c156) rfl) ?_
      refine OKS.r rfl rfl rfl rfl (fun _ => Runs.ext rfl rfl (v := .int .i64 x146) rfl) ?_
      refine OKS.r rfl rfl rfl rfl (fun _ => Runs.as rfl rfl) ?_
      refine OKS.r rfl rfl rfl rfl (fun _ => Runs.as rfl rfl) ?_
      refine OKS.e ?_
      refine thenQ_n ?_
      refine CK.seq ?_
      refine CK.seq ?_
      refine CK.reg (ks := []) (.fl 0 (.fl 1 (.fl 2 (.fl 3 (.fl 4 (.fl 5 (.fx 6 (.fl 7 (.fl 8 (.nil))) .stop))))))) rfl ?_
      refine OKS.r rfl rfl rfl rfl (fun _ => Runs.mv rfl rfl) ?_
      refine OKS.r rfl rfl rfl rfl (fun _ => Runs.mv rfl rfl) ?_
      refine OKS.r rfl rfl rfl rfl (fun _ => Runs.neq rfl rfl rfl) ?_
      refine OKS.r rfl rfl rfl rfl (fun _ => Runs.mv rfl rfl) ?_
      by_cases c159 : x127 = x146
      · have hm160 := hm148; rw [if_pos c159] at hm160; replace c159 := Hid.mk c159
        refine OKS.r rfl rfl rfl (wantedY rfl rfl (decF (fun h => h c159.out))) (fun _ => Runs.mv rfl rfl) ?_
        refine OKS.r rfl rfl rfl (wantedY rfl rfl (decF (fun h => h c159.out))) (fun _ => Runs.mv rfl rfl) ?_
        obtain ⟨φ161, le162, hs163, hS164⟩ := hS158.freezeR (k := 1) (n := x126.length) rfl (flatMap_len (f := encI) (sz := 1) (fun _ => rfl) x126) (by decide)
        have hS165 : St ⟨w, [], φ⟩ φ161 [.row A155 c156 3 1 (List.flatMap encI x145)] W152 := hS164
        obtain ⟨φ166, le167, hs168, hS169⟩ := hS165.freezeR (k := 0) (n := x145.length) rfl (flatMap_len (f := encI) (sz := 1) (fun _ => rfl) x145) (by decide)
        have hS170 : St ⟨w, [], φ⟩ φ166 [] W152 := hS169
        have h171 := hs163.le le167
        obtain ⟨x172, h173, hm174⟩ := bnd hm160
        refine OKS.callH 0 rfl rfl rfl (wantedY rfl rfl (decF (fun h => h c159.out))) (Enters.mk rfl rfl Try.call34 (mapcons rfl (mapcons rfl mapnil)) rfl) hS170 (fun hs => w_klisterkit_Equal_int x126 A136 c137 x145 A155 c156 W152 φ166 hs h171 hs168 h173) (.inr rfl) ?_
        rintro φ175 L176 v177 W178 le179 hS180 ⟨rfl, rfl⟩
        have hS181 : St ⟨w, [], φ⟩ φ175 [] W178 := hS180
        refine OKS.r rfl rfl rfl (wantedY rfl rfl (decF (fun h => h c159.out))) (fun _ => Runs.notT rfl rfl) ?_
        refine OKS.r rfl rfl rfl rfl (fun _ => Runs.pickF rfl (decF (fun h => h c159.out)) rfl) ?_
        refine OKS.e ?_
        refine thenQ_n ?_
        by_cases c182 : x172 = true
        · have hm183 := hm174; rw [if_pos c182] at hm183; replace c182 := Hid.mk c182
          refine CK.condF (congrArg (fun b => Value.bool (!b)) c182.out) ?_
          refine CK.skip ?_
          refine thenQ_n ?_
          refine CK.seq ?_
          refine CK.reg (ks := []) (.fl 0 (.fl 1 (.nil))) rfl ?_
          refine OKS.r rfl rfl rfl rfl (fun _ => Runs.as rfl rfl) ?_
          refine OKS.r rfl rfl rfl rfl (fun _ => Runs.as rfl rfl) ?_
          refine OKS.e ?_
          refine thenQ_n ?_
          refine CK.seq ?_
          refine CK.seq ?_
          refine CK.reg (ks := []) (.fl 0 (.fl 1 (.nil))) rfl ?_
          refine OKS.r rfl rfl rfl rfl (fun _ => Runs.mv rfl rfl) ?_
          refine OKS.r rfl rfl rfl rfl (fun _ => Runs.eql rfl rfl rfl) ?_
          refine OKS.e ?_
          refine thenQ_n ?_
          by_cases c184 : x146 = 0
          · have hm185 := hm183; rw [if_pos c184] at hm185; replace c184 := Hid.mk c184
            refine CK.condT (decT c184.out) ?_
            refine CK.seq ?_
            refine CK.reg (ks := []) (.fl 0 (.nil)) rfl ?_
            refine OKS.r rfl rfl rfl rfl (fun _ => Runs.as rfl rfl) ?_
            refine OKS.e ?_
            refine thenQ_n ?_
            refine CK.seq ?_
            refine CK.reg (ks := []) (.fl 0 (.fl 1 (.fl 2 (.nil)))) rfl ?_
            refine OKS.r rfl rfl rfl rfl (fun _ => Runs.mv rfl rfl) ?_
            refine OKS.r rfl rfl rfl rfl (fun _ => Runs.len rfl rfl Try.runUnderlying23) ?_
            refine OKS.r rfl rfl rfl rfl (fun _ => Runs.mv rfl rfl) ?_
            refine OKS.e ?_
            refine thenQ_n ?_
            refine CK.block ?_
            obtain ⟨⟨y201, y202⟩, hf198, hm197⟩ := bnd hm185
            try dsimp only at hm197
            obtain ⟨hle199, hf200⟩ := forR'_le hf198
            replace hle199 := Hid.mk hle199
            refine CK.forN' (fun k196 (x194, x195) σ_ w_ => ∃ (φ_ : PHeap), σ_ 62 = .int .i64 (↑k196 : Int) ∧ σ_ 0 = .int .i64 p0 ∧ σ_ 1 = .slice pA1 p1.length pc1 ∧ σ_ 5 = .slice A23 x14.length c24 ∧ σ_ 12 = .int .i64 x146 ∧ σ_ 13 = .int .i64 x194 ∧ σ_ 14 = .int .i64 x195 ∧ σ_ 60 = .slice A155 x145.length c156 ∧ σ_ 61 = .int .i64 (↑x145.length : Int) ∧ PHeap.Le φ175 φ_ ∧ St ⟨w, [], φ⟩ φ_ [] w_) hf200 ?_ ?_ ?_
            · exact ⟨φ175, rfl, f114, f115, f116, rfl, rfl, rfl, rfl, rfl, (PHeap.Le.refl _), hS181⟩
            · rintro k196 ⟨x194, x195⟩ xx205 σ203 W204 hk208 ⟨φ210, fi209, f213, f214, f215, f216, f217, f218, f219, f220, le211, hS212⟩ hx206
              try dsimp only at hx206
              have c221 : Hid ((↑k196 : Int) < (↑x145.length : Int)) := Hid.mk (lp_lt0 hk208)
              replace hk208 := Hid.mk hk208
              have hi222 : Hid (w64 ((↑k196 : Int) + 1) = (↑(k196 + 1) : Int)) := Hid.mk (by have h1 := hle199.out; have h2 := c221.out; rw [w64_in] <;> omega)
              refine CK.seq ?_
              refine CK.reg (ks := []) (.fl 0 (.nil)) rfl ?_
              refine OKS.r rfl rfl rfl rfl (fun _ => Runs.lss rfl fi209 f220) ?_
              refine OKS.e ?_
              refine thenQ_n ?_
              refine CK.seq ?_
              refine CK.condT (decT c221.out) ?_
              refine CK.skip ?_
              refine thenQ_n ?_
              refine CK.seq ?_
              refine CK.block ?_
              refine CK.seq ?_
              refine CK.reg (ks := []) (.fl 0 (.fl 1 (.fl 2 (.fl 3 (.fl 4 (.nil)))))) rfl ?_
              refine OKS.r rfl rfl rfl rfl (fun _ => Runs.mv rfl fi209) ?_
              obtain ⟨x223, h224, hm225⟩ := bnd hx206
              have h226 := hs168.le le179
              have h227 := h226.le le211
              obtain ⟨b228, off229, hA230, hC231⟩ := h227.el (fun _ => rfl) (idx_get h224)
              refine OKS.r rfl rfl rfl rfl (fun _ => Runs.iaN rfl f219 hA230 fi209 Try.runUnderlying23 Try.sizeOf3 (idx_lt h224)) ?_
              refine OKS.m rfl rfl rfl rfl (hS212.ldC (f := 0) hC231 (v := .int .i64 x223) rfl rfl Try.isAgg3 rfl) rfl ?_
              refine OKS.r rfl rfl rfl rfl (fun _ => Runs.as rfl rfl) ?_
              refine OKS.r rfl rfl rfl rfl (fun _ => Runs.as rfl rfl) ?_
              refine OKS.e ?_
              refine thenQ_n ?_
              refine CK.seq ?_
              refine CK.seq ?_
              refine CK.reg (ks := []) (.fl 0 (.fl 1 (.nil))) rfl ?_
              refine OKS.r rfl rfl rfl rfl (fun _ => Runs.mv rfl rfl) ?_
              refine OKS.r rfl rfl rfl rfl (fun _ => Runs.gtr rfl rfl rfl) ?_
              refine OKS.e ?_
              refine thenQ_n ?_
              by_cases c232 : 0 < x223
              · have hm233 := hm225; rw [if_pos c232] at hm233; replace c232 := Hid.mk c232
                refine CK.condT (decT c232.out) ?_
                refine CK.reg (ks := []) (.fl 0 (.fl 1 (.fl 2 (.nil)))) rfl ?_
                refine OKS.r rfl rfl rfl rfl (fun _ => Runs.mv rfl f217) ?_
                refine OKS.r rfl rfl rfl rfl (fun _ => Runs.subw rfl rfl rfl) ?_
                refine OKS.r rfl rfl rfl rfl (fun _ => Runs.as rfl rfl) ?_
                refine OKS.e ?_
                refine thenQ_n ?_
                refine CK.seq ?_
                refine CK.reg (ks := []) (.fl 0 (.fl 1 (.nil))) rfl ?_
                refine OKS.r rfl rfl rfl rfl (fun _ => Runs.mv rfl rfl) ?_
                refine OKS.r rfl rfl rfl rfl (fun _ => Runs.gtr rfl rfl rfl) ?_
                refine OKS.e ?_
                refine thenQ_n ?_
                by_cases c234 : 4 < (↑k196 : Int)
                · have hm235 := hm233; rw [if_pos c234] at hm235; replace c234 := Hid.mk c234
                  refine CK.condT (decT c234.out) ?_
                  refine CK.reg (ks := []) (.fl 0 (.fl 1 (.fl 2 (.nil)))) rfl ?_
                  refine OKS.r rfl rfl rfl rfl (fun _ => Runs.mv rfl f218) ?_
                  refine OKS.r rfl rfl rfl rfl (fun _ => Runs.addw rfl rfl rfl) ?_
                  refine OKS.r rfl rfl rfl rfl (fun _ => Runs.as rfl rfl) ?_
                  refine OKS.e ?_
                  refine blockQ_n ?_
                  refine thenQ_n ?_
                  refine CK.reg (ks := []) (.fl 0 (.fl 1 (.nil))) rfl ?_
                  refine OKS.r rfl rfl rfl rfl (fun _ => Runs.to (Runs.addw rfl fi209 rfl) (congrArg (Value.int .i64) hi222.out)) ?_
                  refine OKS.r rfl rfl rfl rfl (fun _ => Runs.mv rfl rfl) ?_
                  refine OKS.e ?_
                  cases hm235
                  exact thenQ_n ⟨rfl, ⟨φ210, rfl, f213, f214, f215, f216, rfl, rfl, f219, f220, le211, hS212⟩⟩
                · have hm238 := hm233; rw [if_neg c234] at hm238; replace c234 := Hid.mk c234
                  refine CK.condF (decF c234.out) ?_
                  refine CK.skip ?_
                  refine blockQ_n ?_
                  refine thenQ_n ?_
                  refine CK.reg (ks := []) (.fl 0 (.fl 1 (.nil))) rfl ?_
                  refine OKS.r rfl rfl rfl rfl (fun _ => Runs.to (Runs.addw rfl fi209 rfl) (congrArg (Value.int .i64) hi222.out)) ?_
                  refine OKS.r rfl rfl rfl rfl (fun _ => Runs.mv rfl rfl) ?_
                  refine OKS.e ?_
                  cases hm238
                  exact thenQ_n ⟨rfl, ⟨φ210, rfl, f213, f214, f215, f216, rfl, f218, f219, f220, le211, hS212⟩⟩
              · have hm241 := hm225; rw [if_neg c232] at hm241; replace c232 := Hid.mk c232
                refine CK.condF (decF c232.out) ?_
                refine CK.skip ?_
                refine thenQ_n ?_
                refine CK.seq ?_
                refine CK.reg (ks := []) (.fl 0 (.fl 1 (.nil))) rfl ?_
                refine OKS.r rfl rfl rfl rfl (fun _ => Runs.mv rfl rfl) ?_
                refine OKS.r rfl rfl rfl rfl (fun _ => Runs.gtr rfl rfl rfl) ?_
                refine OKS.e ?_
                refine thenQ_n ?_
                by_cases c242 : 4 < (↑k196 : Int)
                · have hm243 := hm241; rw [if_pos c242] at hm243; replace c242 := Hid.mk c242
                  refine CK.condT (decT c242.out) ?_
                  refine CK.reg (ks := []) (.fl 0 (.fl 1 (.fl 2 (.nil)))) rfl ?_
                  refine OKS.r rfl rfl rfl rfl (fun _ => Runs.mv rfl f218) ?_
                  refine OKS.r rfl rfl rfl rfl (fun _ => Runs.addw rfl rfl rfl) ?_
                  refine OKS.r rfl rfl rfl rfl (fun _ => Runs.as rfl rfl) ?_
                  refine OKS.e ?_
                  refine blockQ_n ?_
                  refine thenQ_n ?_
                  refine CK.reg (ks := []) (.fl 0 (.fl 1 (.nil))) rfl ?_
                  refine OKS.r rfl rfl rfl rfl (fun _ => Runs.to (Runs.addw rfl fi209 rfl) (congrArg (Value.int .i64) hi222.out)) ?_
                  refine OKS.r rfl rfl rfl rfl (fun _ => Runs.mv rfl rfl) ?_
                  refine OKS.e ?_
                  cases hm243
                  exact thenQ_n ⟨rfl, ⟨φ210, rfl, f213, f214, f215, f216, f217, rfl, f219, f220, le211, hS212⟩⟩
                · have hm246 := hm241; rw [if_neg c242] at hm246; replace c242 := Hid.mk c242
                  refine CK.condF (decF c242.out) ?_
                  refine CK.skip ?_
                  refine blockQ_n ?_
                  refine thenQ_n ?_
                  refine CK.reg (ks := []) (.fl 0 (.fl 1 (.nil))) rfl ?_
                  refine OKS.r rfl rfl rfl rfl (fun _ => Runs.to (Runs.addw rfl fi209 rfl) (congrArg (Value.int .i64) hi222.out)) ?_
                  refine OKS.r rfl rfl rfl rfl (fun _ => Runs.mv rfl rfl) ?_
                  refine OKS.e ?_
                  cases hm246
                  exact thenQ_n ⟨rfl, ⟨φ210, rfl, f213, f214, f215, f216, f217, f218, f219, f220, le211, hS212⟩⟩
            · rintro σ249 W250 ⟨φ255, fi252, f258, f259, f260, f261, f262, f263, f264, f265, le256, hS257⟩
              have c266 : Hid (¬ ((↑(((↑x145.length : Int) : Int) - 0).toNat : Int) < (↑x145.length : Int))) := Hid.mk (lp_end0)
              refine CK.seq ?_
              refine CK.reg (ks := []) (.fl 0 (.nil)) rfl ?_
              refine OKS.r rfl rfl rfl rfl (fun _ => Runs.lss rfl fi252 f265) ?_
              refine OKS.e ?_
              refine thenQ_n ?_
              refine CK.seq ?_
              refine CK.condF (decF c266.out) ?_
              refine CK.exit ?_
              refine thenQ_e ?_
              refine thenQ_e ?_
              refine blockQ_h ?_
              refine thenQ_n ?_
              refine CK.seq ?_
              refine CK.reg (ks := []) (.fl 0 (.fl 1 (.fx 2 (.fl 3 (.fl 4 (.fl 5 (.fl 6 (.fl 7 (.nil)))))) .stop))) rfl ?_
              refine OKS.r rfl rfl rfl rfl (fun _ => Runs.mv rfl f258) ?_
              refine OKS.r rfl rfl rfl rfl (fun _ => Runs.mv rfl f260) ?_
              have h267 := hs123.le le134
              have h268 := h267.le le141
              have h269 := h268.le le153
              have h270 := h269.le le162
              have h271 := h270.le le167
              have h272 := h271.le le179
              have h273 := h272.le le256
              obtain ⟨⟨x274, x275⟩, h276, hm277⟩ := bnd hm197
              try dsimp only at hm277
              refine OKS.callH 0 rfl rfl rfl rfl (Enters.mk rfl rfl Try.call35 (mapcons rfl (mapcons rfl mapnil)) rfl) hS257 (fun hs => w_target_Loops p0 x14 A23 c24 W250 φ255 hs h273 h276) (.inr rfl) ?_
              rintro φ278 L279 v280 W281 le282 hS283 ⟨rfl, rfl⟩
              have hS284 : St ⟨w, [], φ⟩ φ278 [] W281 := hS283
              refine OKS.r rfl rfl rfl rfl (fun _ => Runs.mv rfl rfl) ?_
              refine OKS.r rfl rfl rfl rfl (fun _ => Runs.ext rfl rfl (v := .int .i64 x274) rfl) ?_
              refine OKS.r rfl rfl rfl rfl (fun _ => Runs.ext rfl rfl (v := .int .i64 x275) rfl) ?_
              refine OKS.r rfl rfl rfl rfl (fun _ => Runs.as rfl rfl) ?_
              refine OKS.r rfl rfl rfl rfl (fun _ => Runs.as rfl rfl) ?_
              refine OKS.e ?_
              refine thenQ_n ?_
              refine CK.seq ?_
              refine CK.reg (ks := []) (.fl 0 (.fl 1 (.fx 2 (.fl 3 (.fl 4 (.fl 5 (.fl 6 (.fl 7 (.nil)))))) .stop))) rfl ?_
              refine OKS.r rfl rfl rfl rfl (fun _ => Runs.mv rfl f258) ?_
              refine OKS.r rfl rfl rfl rfl (fun _ => Runs.mv rfl f260) ?_
              have h285 := h273.le le282
              obtain ⟨⟨x286, x287⟩, h288, hm289⟩ := bnd hm277
              try dsimp only at hm289
              refine OKS.callH 0 rfl rfl rfl rfl (Enters.mk rfl rfl Try.call36 (mapcons rfl (mapcons rfl mapnil)) rfl) hS284 (fun hs => w_target_Spares p0 x14 A23 c24 W281 φ278 hs h285 h288) (.inr rfl) ?_
              rintro φ290 L291 v292 W293 le294 hS295 ⟨rfl, rfl⟩
              have hS296 : St ⟨w, [], φ⟩ φ290 [] W293 := hS295
              refine OKS.r rfl rfl rfl rfl (fun _ => Runs.mv rfl rfl) ?_
              refine OKS.r rfl rfl rfl rfl (fun _ => Runs.ext rfl rfl (v := .int .i64 x286) rfl) ?_
              refine OKS.r rfl rfl rfl rfl (fun _ => Runs.ext rfl rfl (v := .int .i64 x287) rfl) ?_
              refine OKS.r rfl rfl rfl rfl (fun _ => Runs.as rfl rfl) ?_
              refine OKS.r rfl rfl rfl rfl (fun _ => Runs.as rfl rfl) ?_
              refine OKS.e ?_
              refine thenQ_n ?_
              refine CK.seq ?_
              refine CK.reg (ks := []) (.fl 0 (.fl 1 (.fl 2 (.fl 3 (.fl 4 (.fl 5 (.fl 6 (.fl 7 (.fl 8 (.fl 9 (.fl 10 (.fl 11 (.fl 12 (.fl 13 (.fl 14 (.fl 15 (.fl 16 (.fl 17 (.fl 18 (.fl 19 (.fl 20 (.fx 21 (.fl 22 (.fl 23 (.fx 24 (.fl 25 (.fl 26 (.nil))) .stop))) .stop)))))))))))))))))))))) rfl ?_
              refine OKS.r rfl rfl rfl rfl (fun _ => Runs.mv rfl rfl) ?_
              refine OKS.r rfl rfl rfl rfl (fun _ => Runs.mv rfl f262) ?_
              refine OKS.r rfl rfl rfl rfl (fun _ => Runs.eql rfl rfl rfl) ?_
              refine OKS.r rfl rfl rfl rfl (fun _ => Runs.mv rfl rfl) ?_
              by_cases c297 : x274 = y201
              · have hm298 := hm289; rw [if_pos c297] at hm298; replace c297 := Hid.mk c297
                refine OKS.r rfl rfl rfl (wantedY rfl rfl (decT c297.out)) (fun _ => Runs.mv rfl rfl) ?_
                refine OKS.r rfl rfl rfl (wantedY rfl rfl (decT c297.out)) (fun _ => Runs.mv rfl f261) ?_
                refine OKS.r rfl rfl rfl (wantedY rfl rfl (decT c297.out)) (fun _ => Runs.eql rfl rfl rfl) ?_
                refine OKS.r rfl rfl rfl rfl (fun _ => Runs.pickT rfl (decT c297.out) rfl) ?_
                refine OKS.r rfl rfl rfl rfl (fun _ => Runs.mv rfl rfl) ?_
                by_cases c299 : x275 = x146
                · have hm300 := hm298; rw [if_pos c299] at hm300; replace c299 := Hid.mk c299
                  refine OKS.r rfl rfl rfl (wantedY rfl rfl (decT c299.out)) (fun _ => Runs.mv rfl rfl) ?_
                  refine OKS.r rfl rfl rfl (wantedY rfl rfl (decT c299.out)) (fun _ => Runs.mv rfl f263) ?_
                  refine OKS.r rfl rfl rfl (wantedY rfl rfl (decT c299.out)) (fun _ => Runs.eql rfl rfl rfl) ?_
                  refine OKS.r rfl rfl rfl rfl (fun _ => Runs.pickT rfl (decT c299.out) rfl) ?_
                  refine OKS.r rfl rfl rfl rfl (fun _ => Runs.mv rfl rfl) ?_
                  by_cases c301 : x286 = y202
                  · have hm302 := hm300; rw [if_pos c301] at hm302; replace c301 := Hid.mk c301
                    refine OKS.r rfl rfl rfl (wantedY rfl rfl (decT c301.out)) (fun _ => Runs.mv rfl rfl) ?_
                    refine OKS.r rfl rfl rfl (wantedY rfl rfl (decT c301.out)) (fun _ => Runs.mv rfl f261) ?_
                    refine OKS.r rfl rfl rfl (wantedY rfl rfl (decT c301.out)) (fun _ => Runs.eql rfl rfl rfl) ?_
                    refine OKS.r rfl rfl rfl rfl (fun _ => Runs.pickT rfl (decT c301.out) rfl) ?_
                    refine OKS.r rfl rfl rfl rfl (fun _ => Runs.mv rfl rfl) ?_
                    by_cases c303 : x287 = x146
                    · have hm304 := hm302; rw [if_pos c303] at hm304; replace c303 := Hid.mk c303
                      refine OKS.r rfl rfl rfl (wantedY rfl rfl (decT c303.out)) (fun _ => Runs.mv rfl f260) ?_
                      refine OKS.r rfl rfl rfl (wantedY rfl rfl (decT c303.out)) (fun _ => Runs.mv rfl f259) ?_
                      have h305 := h285.le le294
                      have h306 := ha0.le le21
                      have h307 := h306.le le112
                      have h308 := h307.le le122
                      have h309 := h308.le le134
                      have h310 := h309.le le141
                      have h311 := h310.le le153
                      have h312 := h311.le le162
                      have h313 := h312.le le167
                      have h314 := h313.le le179
                      have h315 := h314.le le256
                      have h316 := h315.le le282
                      have h317 := h316.le le294
                      obtain ⟨x318, h319, hm320⟩ := bnd hm304
                      refine OKS.callH 0 rfl rfl rfl (wantedY rfl rfl (decT c303.out)) (Enters.mk rfl rfl Try.call37 (mapcons rfl (mapcons rfl mapnil)) rfl) hS296 (fun hs => w_klisterkit_Equal_target_Shot x14 A23 c24 p1 pA1 pc1 W293 φ290 hs h305 h317 h319) (.inr rfl) ?_
                      rintro φ321 L322 v323 W324 le325 hS326 ⟨rfl, rfl⟩
                      have hS327 : St ⟨w, [], φ⟩ φ321 [] W324 := hS326
                      refine OKS.r rfl rfl rfl rfl (fun _ => Runs.pickT rfl (decT c303.out) rfl) ?_
                      refine OKS.r rfl rfl rfl rfl (fun _ => Runs.mv rfl rfl) ?_
                      by_cases c328 : x318 = true
                      · have hm329 := hm320; rw [if_pos c328] at hm329; replace c328 := Hid.mk c328
                        obtain ⟨x330, h331, hm332⟩ := bnd hm329
                        refine OKS.callH 0 rfl rfl rfl (wantedY rfl rfl (congrArg Value.bool c328.out)) (Enters.mk rfl rfl Try.call24 mapnil rfl) hS327 (fun hs => w_klisterlaw03_awake W324 φ321 hs h331) (.inr rfl) ?_
                        rintro φ333 L334 v335 W336 le337 hS338 ⟨rfl, rfl⟩
                        have hS339 : St ⟨w, [], φ⟩ φ333 [] W336 := hS338
                        refine OKS.r rfl rfl rfl rfl (fun _ => Runs.pickT rfl (congrArg Value.bool c328.out) rfl) ?_
                        refine OKS.r rfl rfl rfl rfl (fun _ => Runs.as rfl rfl) ?_
                        refine OKS.e ?_
                        refine thenQ_n ?_
                        refine CK.ret ?_
                        cases hm332
                        exact ⟨rfl, _, (res1 rfl), φ333, _, hS339, rfl, rfl⟩
                      · have hm340 := hm320; rw [if_neg c328] at hm340; replace c328 := Hid.mk c328
                        refine OKS.px rfl rfl rfl (wantedN rfl rfl (congrArg Value.bool (Bool.eq_false_iff.2 c328.out)) rfl) ?_
                        refine OKS.r rfl rfl rfl rfl (fun _ => Runs.pickF rfl (congrArg Value.bool (Bool.eq_false_iff.2 c328.out)) rfl) ?_
                        refine OKS.r rfl rfl rfl rfl (fun _ => Runs.as rfl rfl) ?_
                        refine OKS.e ?_
                        refine thenQ_n ?_
                        refine CK.ret ?_
                        cases hm340
                        exact ⟨rfl, _, (res1 rfl), φ321, _, hS327, rfl, rfl⟩
                    · have hm341 := hm302; rw [if_neg c303] at hm341; replace c303 := Hid.mk c303
                      refine OKS.p rfl rfl rfl (wantedN rfl rfl (decF c303.out) rfl) ?_
                      refine OKS.p rfl rfl rfl (wantedN rfl rfl (decF c303.out) rfl) ?_
                      refine OKS.px rfl rfl rfl (wantedN rfl rfl (decF c303.out) rfl) ?_
                      refine OKS.r rfl rfl rfl rfl (fun _ => Runs.pickF rfl (decF c303.out) rfl) ?_
                      refine OKS.r rfl rfl rfl rfl (fun _ => Runs.mv rfl rfl) ?_
                      refine OKS.px rfl rfl rfl (wantedN rfl rfl rfl rfl) ?_
                      refine OKS.r rfl rfl rfl rfl (fun _ => Runs.pickF rfl rfl rfl) ?_
                      refine OKS.r rfl rfl rfl rfl (fun _ => Runs.as rfl rfl) ?_
                      refine OKS.e ?_
                      refine thenQ_n ?_
                      refine CK.ret ?_
                      cases hm341
                      exact ⟨rfl, _, (res1 rfl), φ290, _, hS296, rfl, rfl⟩
                  · have hm342 := hm300; rw [if_neg c301] at hm342; replace c301 := Hid.mk c301
                    refine OKS.p rfl rfl rfl (wantedN rfl rfl (decF c301.out) rfl) ?_
                    refine OKS.p rfl rfl rfl (wantedN rfl rfl (decF c301.out) rfl) ?_
                    refine OKS.p rfl rfl rfl (wantedN rfl rfl (decF c301.out) rfl) ?_
                    refine OKS.r rfl rfl rfl rfl (fun _ => Runs.pickF rfl (decF c301.out) rfl) ?_
                    refine OKS.r rfl rfl rfl rfl (fun _ => Runs.mv rfl rfl) ?_
                    refine OKS.p rfl rfl rfl (wantedN rfl rfl rfl rfl) ?_
                    refine OKS.p rfl rfl rfl (wantedN rfl rfl rfl rfl) ?_
                    refine OKS.px rfl rfl rfl (wantedN rfl rfl rfl rfl) ?_
                    refine OKS.r rfl rfl rfl rfl (fun _ => Runs.pickF rfl rfl rfl) ?_
                    refine OKS.r rfl rfl rfl rfl (fun _ => Runs.mv rfl rfl) ?_
                    refine OKS.px rfl rfl rfl (wantedN rfl rfl rfl rfl) ?_
                    refine OKS.r rfl rfl rfl rfl (fun _ => Runs.pickF rfl rfl rfl) ?_
                    refine OKS.r rfl rfl rfl rfl (fun _ => Runs.as rfl rfl) ?_
                    refine OKS.e ?_
                    refine thenQ_n ?_
                    refine CK.ret ?_
                    cases hm342
                    exact ⟨rfl, _, (res1 rfl), φ290, _, hS296, rfl, rfl⟩
                · have hm343 := hm298; rw [if_neg c299] at hm343; replace c299 := Hid.mk c299
                  refine OKS.p rfl rfl rfl (wantedN rfl rfl (decF c299.out) rfl) ?_
                  refine OKS.p rfl rfl rfl (wantedN rfl rfl (decF c299.out) rfl) ?_
                  refine OKS.p rfl rfl rfl (wantedN rfl rfl (decF c299.out) rfl) ?_
                  refine OKS.r rfl rfl rfl rfl (fun _ => Runs.pickF rfl (decF c299.out) rfl) ?_
                  refine OKS.r rfl rfl rfl rfl (fun _ => Runs.mv rfl rfl) ?_
                  refine OKS.p rfl rfl rfl (wantedN rfl rfl rfl rfl) ?_
                  refine OKS.p rfl rfl rfl (wantedN rfl rfl rfl rfl) ?_
                  refine OKS.p rfl rfl rfl (wantedN rfl rfl rfl rfl) ?_
                  refine OKS.r rfl rfl rfl rfl (fun _ => Runs.pickF rfl rfl rfl) ?_
                  refine OKS.r rfl rfl rfl rfl (fun _ => Runs.mv rfl rfl) ?_
                  refine OKS.p rfl rfl rfl (wantedN rfl rfl rfl rfl) ?_
                  refine OKS.p rfl rfl rfl (wantedN rfl rfl rfl rfl) ?_
                  refine OKS.px rfl rfl rfl (wantedN rfl rfl rfl rfl) ?_
                  refine OKS.r rfl rfl rfl rfl (fun _ => Runs.pickF rfl rfl rfl) ?_
                  refine OKS.r rfl rfl rfl rfl (fun _ => Runs.mv rfl rfl) ?_
                  refine OKS.px rfl rfl rfl (wantedN rfl rfl rfl rfl) ?_
                  refine OKS.r rfl rfl rfl rfl (fun _ => Runs.pickF rfl rfl rfl) ?_
                  refine OKS.r rfl rfl rfl rfl (fun _ => Runs.as rfl rfl) ?_
                  refine OKS.e ?_
                  refine thenQ_n ?_
                  refine CK.ret ?_
                  cases hm343
                  exact ⟨rfl, _, (res1 rfl), φ290, _, hS296, rfl, rfl⟩
              · have hm344 := hm289; rw [if_neg c297] at hm344; replace c297 := Hid.mk c297
                refine OKS.p rfl rfl rfl (wantedN rfl rfl (decF c297.out) rfl) ?_
                refine OKS.p rfl rfl rfl (wantedN rfl rfl (decF c297.out) rfl) ?_
                refine OKS.p rfl rfl rfl (wantedN rfl rfl (decF c297.out) rfl) ?_
                refine OKS.r rfl rfl rfl rfl (fun _ => Runs.pickF rfl (decF c297.out) rfl) ?_
                refine OKS.r rfl rfl rfl rfl (fun _ => Runs.mv rfl rfl) ?_
                refine OKS.p rfl rfl rfl (wantedN rfl rfl rfl rfl) ?_
                refine OKS.p rfl rfl rfl (wantedN rfl rfl rfl rfl) ?_
                refine OKS.p rfl rfl rfl (wantedN rfl rfl rfl rfl) ?_
                refine OKS.r rfl rfl rfl rfl (fun _ => Runs.pickF rfl rfl rfl) ?_
                refine OKS.r rfl rfl rfl rfl (fun _ => Runs.mv rfl rfl) ?_
                refine OKS.p rfl rfl rfl (wantedN rfl rfl rfl rfl) ?_
                refine OKS.p rfl rfl rfl (wantedN rfl rfl rfl rfl) ?_
                refine OKS.p rfl rfl rfl (wantedN rfl rfl rfl rfl) ?_
                refine OKS.r rfl rfl rfl rfl (fun _ => Runs.pickF rfl rfl rfl) ?_
                refine OKS.r rfl rfl rfl rfl (fun _ => Runs.mv rfl rfl) ?_
                refine OKS.p rfl rfl rfl (wantedN rfl rfl rfl rfl) ?_
                refine OKS.p rfl rfl rfl (wantedN rfl rfl rfl rfl) ?_
                refine OKS.px rfl rfl rfl (wantedN rfl rfl rfl rfl) ?_
                refine OKS.r rfl rfl rfl rfl (fun _ => Runs.pickF rfl rfl rfl) ?_
                refine OKS.r rfl rfl rfl rfl (fun _ => Runs.mv rfl rfl) ?_
                refine OKS.px rfl rfl rfl (wantedN rfl rfl rfl rfl) ?_
                refine OKS.r rfl rfl rfl rfl (fun _ => Runs.pickF rfl rfl rfl) ?_
                refine OKS.r rfl rfl rfl rfl (fun _ => Runs.as rfl rfl) ?_
                refine OKS.e ?_
                refine thenQ_n ?_
                refine CK.ret ?_
                cases hm344
                exact ⟨rfl, _, (res1 rfl), φ290, _, hS296, rfl, rfl⟩
          · have hm345 := hm183; rw [if_neg c184] at hm345; replace c184 := Hid.mk c184
            refine CK.condF (decF c184.out) ?_
            refine CK.skip ?_
            refine thenQ_n ?_
            refine CK.seq ?_
            refine CK.reg (ks := []) (.fl 0 (.fl 1 (.fx 2 (.fl 3 (.fl 4 (.fl 5 (.fl 6 (.fl 7 (.nil)))))) .stop))) rfl ?_
            refine OKS.r rfl rfl rfl rfl (fun _ => Runs.mv rfl f114) ?_
            refine OKS.r rfl rfl rfl rfl (fun _ => Runs.mv rfl f116) ?_
            have h346 := hs123.le le134
            have h347 := h346.le le141
            have h348 := h347.le le153
            have h349 := h348.le le162
            have h350 := h349.le le167
            have h351 := h350.le le179
            obtain ⟨⟨x352, x353⟩, h354, hm355⟩ := bnd hm345
            try dsimp only at hm355
            refine OKS.callH 0 rfl rfl rfl rfl (Enters.mk rfl rfl Try.call35 (mapcons rfl (mapcons rfl mapnil)) rfl) hS181 (fun hs => w_target_Loops p0 x14 A23 c24 W178 φ175 hs h351 h354) (.inr rfl) ?_
            rintro φ356 L357 v358 W359 le360 hS361 ⟨rfl, rfl⟩
            have hS362 : St ⟨w, [], φ⟩ φ356 [] W359 := hS361
            refine OKS.r rfl rfl rfl rfl (fun _ => Runs.mv rfl rfl) ?_
            refine OKS.r rfl rfl rfl rfl (fun _ => Runs.ext rfl rfl (v := .int .i64 x352) rfl) ?_
            refine OKS.r rfl rfl rfl rfl (fun _ => Runs.ext rfl rfl (v := .int .i64 x353) rfl) ?_
            refine OKS.r rfl rfl rfl rfl (fun _ => Runs.as rfl rfl) ?_
            refine OKS.r rfl rfl rfl rfl (fun _ => Runs.as rfl rfl) ?_
            refine OKS.e ?_
            refine thenQ_n ?_
            refine CK.seq ?_
            refine CK.fresh fun σ363 hσ364 => ?_
            have f365 : σ363 0 = .int .i64 p0 := (hσ364 0).trans f114
            have f366 : σ363 1 = .slice pA1 p1.length pc1 := (hσ364 1).trans f115
            have f367 : σ363 5 = .slice A23 x14.length c24 := (hσ364 5).trans f116
            have f368 : σ363 10 = .int .i64 x353 := (hσ364 10).trans rfl
            have f369 : σ363 12 = .int .i64 x146 := (hσ364 12).trans rfl
            have f370 : σ363 13 = .int .i64 0 := (hσ364 13).trans rfl
            have f371 : σ363 14 = .int .i64 0 := (hσ364 14).trans rfl
            have f372 : σ363 17 = .int .i64 x352 := (hσ364 17).trans rfl
            clear hσ364
            refine CK.reg (ks := []) (.fl 0 (.fl 1 (.fx 2 (.fl 3 (.fl 4 (.fl 5 (.fl 6 (.fl 7 (.nil)))))) .stop))) rfl ?_
            refine OKS.r rfl rfl rfl rfl (fun _ => Runs.mv rfl f365) ?_
            refine OKS.r rfl rfl rfl rfl (fun _ => Runs.mv rfl f367) ?_
            have h373 := h351.le le360
            obtain ⟨⟨x374, x375⟩, h376, hm377⟩ := bnd hm355
            try dsimp only at hm377
            refine OKS.callH 0 rfl rfl rfl rfl (Enters.mk rfl rfl Try.call36 (mapcons rfl (mapcons rfl mapnil)) rfl) hS362 (fun hs => w_target_Spares p0 x14 A23 c24 W359 φ356 hs h373 h376) (.inr rfl) ?_
            rintro φ378 L379 v380 W381 le382 hS383 ⟨rfl, rfl⟩
            have hS384 : St ⟨w, [], φ⟩ φ378 [] W381 := hS383
            refine OKS.r rfl rfl rfl rfl (fun _ => Runs.mv rfl rfl) ?_
            refine OKS.r rfl rfl rfl rfl (fun _ => Runs.ext rfl rfl (v := .int .i64 x374) rfl) ?_
            refine OKS.r rfl rfl rfl rfl (fun _ => Runs.ext rfl rfl (v := .int .i64 x375) rfl) ?_
            refine OKS.r rfl rfl rfl rfl (fun _ => Runs.as rfl rfl) ?_
            refine OKS.r rfl rfl rfl rfl (fun _ => Runs.as rfl rfl) ?_
            refine OKS.e ?_
            refine thenQ_n ?_
            refine CK.seq ?_
            refine CK.reg (ks := []) (.fl 0 (.fl 1 (.fl 2 (.fl 3 (.fl 4 (.fl 5 (.fl 6 (.fl 7 (.fl 8 (.fl 9 (.fl 10 (.fl 11 (.fl 12 (.fl 13 (.fl 14 (.fl 15 (.fl 16 (.fl 17 (.fl 18 (.fl 19 (.fl 20 (.fx 21 (.fl 22 (.fl 23 (.fx 24 (.fl 25 (.fl 26 (.nil))) .stop))) .stop)))))))))))))))))))))) rfl ?_
            refine OKS.r rfl rfl rfl rfl (fun _ => Runs.mv rfl f372) ?_
            refine OKS.r rfl rfl rfl rfl (fun _ => Runs.mv rfl f370) ?_
            refine OKS.r rfl rfl rfl rfl (fun _ => Runs.eql rfl rfl rfl) ?_
            refine OKS.r rfl rfl rfl rfl (fun _ => Runs.mv rfl rfl) ?_
            by_cases c385 : x352 = 0
            · have hm386 := hm377; rw [if_pos c385] at hm386; replace c385 := Hid.mk c385
              refine OKS.r rfl rfl rfl (wantedY rfl rfl (decT c385.out)) (fun _ => Runs.mv rfl f368) ?_
              refine OKS.r rfl rfl rfl (wantedY rfl rfl (decT c385.out)) (fun _ => Runs.mv rfl f369) ?_
              refine OKS.r rfl rfl rfl (wantedY rfl rfl (decT c385.out)) (fun _ => Runs.eql rfl rfl rfl) ?_
              refine OKS.r rfl rfl rfl rfl (fun _ => Runs.pickT rfl (decT c385.out) rfl) ?_
              refine OKS.r rfl rfl rfl rfl (fun _ => Runs.mv rfl rfl) ?_
              by_cases c387 : x353 = x146
              · have hm388 := hm386; rw [if_pos c387] at hm388; replace c387 := Hid.mk c387
                refine OKS.r rfl rfl rfl (wantedY rfl rfl (decT c387.out)) (fun _ => Runs.mv rfl rfl) ?_
                refine OKS.r rfl rfl rfl (wantedY rfl rfl (decT c387.out)) (fun _ => Runs.mv rfl f371) ?_
                refine OKS.r rfl rfl rfl (wantedY rfl rfl (decT c387.out)) (fun _ => Runs.eql rfl rfl rfl) ?_
                refine OKS.r rfl rfl rfl rfl (fun _ => Runs.pickT rfl (decT c387.out) rfl) ?_
                refine OKS.r rfl rfl rfl rfl (fun _ => Runs.mv rfl rfl) ?_
                by_cases c389 : x374 = 0
                · have hm390 := hm388; rw [if_pos c389] at hm390; replace c389 := Hid.mk c389
                  refine OKS.r rfl rfl rfl (wantedY rfl rfl (decT c389.out)) (fun _ => Runs.mv rfl rfl) ?_
                  refine OKS.r rfl rfl rfl (wantedY rfl rfl (decT c389.out)) (fun _ => Runs.mv rfl f369) ?_
                  refine OKS.r rfl rfl rfl (wantedY rfl rfl (decT c389.out)) (fun _ => Runs.eql rfl rfl rfl) ?_
                  refine OKS.r rfl rfl rfl rfl (fun _ => Runs.pickT rfl (decT c389.out) rfl) ?_
                  refine OKS.r rfl rfl rfl rfl (fun _ => Runs.mv rfl rfl) ?_
                  by_cases c391 : x375 = x146
                  · have hm392 := hm390; rw [if_pos c391] at hm392; replace c391 := Hid.mk c391
                    refine OKS.r rfl rfl rfl (wantedY rfl rfl (decT c391.out)) (fun _ => Runs.mv rfl f367) ?_
                    refine OKS.r rfl rfl rfl (wantedY rfl rfl (decT c391.out)) (fun _ => Runs.mv rfl f366) ?_
                    have h393 := h373.le le382
                    have h394 := ha0.le le21
                    have h395 := h394.le le112
                    have h396 := h395.le le122
                    have h397 := h396.le le134
                    have h398 := h397.le le141
                    have h399 := h398.le le153
                    have h400 := h399.le le162
                    have h401 := h400.le le167
                    have h402 := h401.le le179
                    have h403 := h402.le le360
                    have h404 := h403.le le382
                    obtain ⟨x405, h406, hm407⟩ := bnd hm392
                    refine OKS.callH 0 rfl rfl rfl (wantedY rfl rfl (decT c391.out)) (Enters.mk rfl rfl Try.call37 (mapcons rfl (mapcons rfl mapnil)) rfl) hS384 (fun hs => w_klisterkit_Equal_target_Shot x14 A23 c24 p1 pA1 pc1 W381 φ378 hs h393 h404 h406) (.inr rfl) ?_
                    rintro φ408 L409 v410 W411 le412 hS413 ⟨rfl, rfl⟩
                    have hS414 : St ⟨w, [], φ⟩ φ408 [] W411 := hS413
                    refine OKS.r rfl rfl rfl rfl (fun _ => Runs.pickT rfl (decT c391.out) rfl) ?_
                    refine OKS.r rfl rfl rfl rfl (fun _ => Runs.mv rfl rfl) ?_
                    by_cases c415 : x405 = true
                    · have hm416 := hm407; rw [if_pos c415] at hm416; replace c415 := Hid.mk c415
                      obtain ⟨x417, h418, hm419⟩ := bnd hm416
                      refine OKS.callH 0 rfl rfl rfl (wantedY rfl rfl (congrArg Value.bool c415.out)) (Enters.mk rfl rfl Try.call24 mapnil rfl) hS414 (fun hs => w_klisterlaw03_awake W411 φ408 hs h418) (.inr rfl) ?_
                      rintro φ420 L421 v422 W423 le424 hS425 ⟨rfl, rfl⟩
                      have hS426 : St ⟨w, [], φ⟩ φ420 [] W423 := hS425
                      refine OKS.r rfl rfl rfl rfl (fun _ => Runs.pickT rfl (congrArg Value.bool c415.out) rfl) ?_
                      refine OKS.r rfl rfl rfl rfl (fun _ => Runs.as rfl rfl) ?_
                      refine OKS.e ?_
                      refine thenQ_n ?_
                      refine CK.ret ?_
                      cases hm419
                      exact ⟨rfl, _, (res1 rfl), φ420, _, hS426, rfl, rfl⟩
                    · have hm427 := hm407; rw [if_neg c415] at hm427; replace c415 := Hid.mk c415
                      refine OKS.px rfl rfl rfl (wantedN rfl rfl (congrArg Value.bool (Bool.eq_false_iff.2 c415.out)) rfl) ?_
                      refine OKS.r rfl rfl rfl rfl (fun _ => Runs.pickF rfl (congrArg Value.bool (Bool.eq_false_iff.2 c415.out)) rfl) ?_
                      refine OKS.r rfl rfl rfl rfl (fun _ => Runs.as rfl rfl) ?_
                      refine OKS.e ?_
                      refine thenQ_n ?_
                      refine CK.ret ?_
                      cases hm427
                      exact ⟨rfl, _, (res1 rfl), φ408, _, hS414, rfl, rfl⟩
                  · have hm428 := hm390; rw [if_neg c391] at hm428; replace c391 := Hid.mk c391
                    refine OKS.p rfl rfl rfl (wantedN rfl rfl (decF c391.out) rfl) ?_
                    refine OKS.p rfl rfl rfl (wantedN rfl rfl (decF c391.out) rfl) ?_
                    refine OKS.px rfl rfl rfl (wantedN rfl rfl (decF c391.out) rfl) ?_
                    refine OKS.r rfl rfl rfl rfl (fun _ => Runs.pickF rfl (decF c391.out) rfl) ?_
                    refine OKS.r rfl rfl rfl rfl (fun _ => Runs.mv rfl rfl) ?_
                    refine OKS.px rfl rfl rfl (wantedN rfl rfl rfl rfl) ?_
                    refine OKS.r rfl rfl rfl rfl (fun _ => Runs.pickF rfl rfl rfl) ?_
                    refine OKS.r rfl rfl rfl rfl (fun _ => Runs.as rfl rfl) ?_
                    refine OKS.e ?_
                    refine thenQ_n ?_
                    refine CK.ret ?_
                    cases hm428
                    exact ⟨rfl, _, (res1 rfl), φ378, _, hS384, rfl, rfl⟩
                · have hm429 := hm388; rw [if_neg c389] at hm429; replace c389 := Hid.mk c389
                  refine OKS.p rfl rfl rfl (wantedN rfl rfl (decF c389.out) rfl) ?_
                  refine OKS.p rfl rfl rfl (wantedN rfl rfl (decF c389.out) rfl) ?_
                  refine OKS.p rfl rfl rfl (wantedN rfl rfl (decF c389.out) rfl) ?_
                  refine OKS.r rfl rfl rfl rfl (fun _ => Runs.pickF rfl (decF c389.out) rfl) ?_
                  refine OKS.r rfl rfl rfl rfl (fun _ => Runs.mv rfl rfl) ?_
                  refine OKS.p rfl rfl rfl (wantedN rfl rfl rfl rfl) ?_
                  refine OKS.p rfl rfl rfl (wantedN rfl rfl rfl rfl) ?_
                  refine OKS.px rfl rfl rfl (wantedN rfl rfl rfl rfl) ?_
                  refine OKS.r rfl rfl rfl rfl (fun _ => Runs.pickF rfl rfl rfl) ?_
                  refine OKS.r rfl rfl rfl rfl (fun _ => Runs.mv rfl rfl) ?_
                  refine OKS.px rfl rfl rfl (wantedN rfl rfl rfl rfl) ?_
                  refine OKS.r rfl rfl rfl rfl (fun _ => Runs.pickF rfl rfl rfl) ?_
                  refine OKS.r rfl rfl rfl rfl (fun _ => Runs.as rfl rfl) ?_
                  refine OKS.e ?_
                  refine thenQ_n ?_
                  refine CK.ret ?_
                  cases hm429
                  exact ⟨rfl, _, (res1 rfl), φ378, _, hS384, rfl, rfl⟩
              · have hm430 := hm386; rw [if_neg c387] at hm430; replace c387 := Hid.mk c387
                refine OKS.p rfl rfl rfl (wantedN rfl rfl (decF c387.out) rfl) ?_
                refine OKS.p rfl rfl rfl (wantedN rfl rfl (decF c387.out) rfl) ?_
                refine OKS.p rfl rfl rfl (wantedN rfl rfl (decF c387.out) rfl) ?_
                refine OKS.r rfl rfl rfl rfl (fun _ => Runs.pickF rfl (decF c387.out) rfl) ?_
                refine OKS.r rfl rfl rfl rfl (fun _ => Runs.mv rfl rfl) ?_
                refine OKS.p rfl rfl rfl (wantedN rfl rfl rfl rfl) ?_
                refine OKS.p rfl rfl rfl (wantedN rfl rfl rfl rfl) ?_
                refine OKS.p rfl rfl rfl (wantedN rfl rfl rfl rfl) ?_
                refine OKS.r rfl rfl rfl rfl (fun _ => Runs.pickF rfl rfl rfl) ?_
                refine OKS.r rfl rfl rfl rfl (fun _ => Runs.mv rfl rfl) ?_
                refine OKS.p rfl rfl rfl (wantedN rfl rfl rfl rfl) ?_
                refine OKS.p rfl rfl rfl (wantedN rfl rfl rfl rfl) ?_
                refine OKS.px rfl rfl rfl (wantedN rfl rfl rfl rfl) ?_
                refine OKS.r rfl rfl rfl rfl (fun _ => Runs.pickF rfl rfl rfl) ?_
                refine OKS.r rfl rfl rfl rfl (fun _ => Runs.mv rfl rfl) ?_
                refine OKS.px rfl rfl rfl (wantedN rfl rfl rfl rfl) ?_
                refine OKS.r rfl rfl rfl rfl (fun _ => Runs.pickF rfl rfl rfl) ?_
                refine OKS.r rfl rfl rfl rfl (fun _ => Runs.as rfl rfl) ?_
                refine OKS.e ?_
                refine thenQ_n ?_
                refine CK.ret ?_
                cases hm430
                exact ⟨rfl, _, (res1 rfl), φ378, _, hS384, rfl, rfl⟩
            · have hm431 := hm377; rw [if_neg c385] at hm431; replace c385 := Hid.mk c385
              refine OKS.p rfl rfl rfl (wantedN rfl rfl (decF c385.out) rfl) ?_
              refine OKS.p rfl rfl rfl (wantedN rfl rfl (decF c385.out) rfl) ?_
              refine OKS.p rfl rfl rfl (wantedN rfl rfl (decF c385.out) rfl) ?_
              refine OKS.r rfl rfl rfl rfl (fun _ => Runs.pickF rfl (decF c385.out) rfl) ?_
              refine OKS.r rfl rfl rfl rfl (fun _ => Runs.mv rfl rfl) ?_
              refine OKS.p rfl rfl rfl (wantedN rfl rfl rfl rfl) ?_
              refine OKS.p rfl rfl rfl (wantedN rfl rfl rfl rfl) ?_
              refine OKS.p rfl rfl rfl (wantedN rfl rfl rfl rfl) ?_
              refine OKS.r rfl rfl rfl rfl (fun _ => Runs.pickF rfl rfl rfl) ?_
              refine OKS.r rfl rfl rfl rfl (fun _ => Runs.mv rfl rfl) ?_
              refine OKS.p rfl rfl rfl (wantedN rfl rfl rfl rfl) ?_
              refine OKS.p rfl rfl rfl (wantedN rfl rfl rfl rfl) ?_
              refine OKS.p rfl rfl rfl (wantedN rfl rfl rfl rfl) ?_
              refine OKS.r rfl rfl rfl rfl (fun _ => Runs.pickF rfl rfl rfl) ?_
              refine OKS.r rfl rfl rfl rfl (fun _ => Runs.mv rfl rfl) ?_
              refine OKS.p rfl rfl rfl (wantedN rfl rfl rfl rfl) ?_
              refine OKS.p rfl rfl rfl (wantedN rfl rfl rfl rfl) ?_
              refine OKS.px rfl rfl rfl (wantedN rfl rfl rfl rfl) ?_
              refine OKS.r rfl rfl rfl rfl (fun _ => Runs.pickF rfl rfl rfl) ?_
              refine OKS.r rfl rfl rfl rfl (fun _ => Runs.mv rfl rfl) ?_
              refine OKS.px rfl rfl rfl (wantedN rfl rfl rfl rfl) ?_
              refine OKS.r rfl rfl rfl rfl (fun _ => Runs.pickF rfl rfl rfl) ?_
              refine OKS.r rfl rfl rfl rfl (fun _ => Runs.as rfl rfl) ?_
              refine OKS.e ?_
              refine thenQ_n ?_
              refine CK.ret ?_
              cases hm431
              exact ⟨rfl, _, (res1 rfl), φ378, _, hS384, rfl, rfl⟩
        · have hm432 := hm174; rw [if_neg c182] at hm432; replace c182 := Hid.mk c182
          refine CK.condT (congrArg (fun b => Value.bool (!b)) (Bool.eq_false_iff.2 c182.out)) ?_
          refine CK.seq ?_
          refine CK.reg (ks := []) (.fl 0 (.nil)) rfl ?_
          refine OKS.r rfl rfl rfl rfl (fun _ => Runs.as rfl rfl) ?_
          refine OKS.e ?_
          refine thenQ_n ?_
          refine CK.ret ?_
          refine thenQ_r ?_
          cases hm432
          exact ⟨rfl, _, (res1 rfl), φ175, _, hS181, rfl, rfl⟩
      · have hm433 := hm148; rw [if_neg c159] at hm433; replace c159 := Hid.mk c159
        refine OKS.p rfl rfl rfl (wantedN rfl rfl (decT c159.out) rfl) ?_
        refine OKS.p rfl rfl rfl (wantedN rfl rfl (decT c159.out) rfl) ?_
        refine OKS.px rfl rfl rfl (wantedN rfl rfl (decT c159.out) rfl) ?_
        refine OKS.p rfl rfl rfl (wantedN rfl rfl (decT c159.out) rfl) ?_
        refine OKS.r rfl rfl rfl rfl (fun _ => Runs.pickT rfl (decT c159.out) rfl) ?_
        refine OKS.e ?_
        refine thenQ_n ?_
        refine CK.condT rfl ?_
        refine CK.seq ?_
        refine CK.reg (ks := []) (.fl 0 (.nil)) rfl ?_
        refine OKS.r rfl rfl rfl rfl (fun _ => Runs.as rfl rfl) ?_
        refine OKS.e ?_
        refine thenQ_n ?_
        refine CK.ret ?_
        refine thenQ_r ?_
        cases hm433
        exact ⟨rfl, _, (res1 rfl), φ149, _, (hS158.pick [] _ (by decide) rfl), rfl, rfl⟩
end Go.Proofs.Ytnllmignponhdaa
