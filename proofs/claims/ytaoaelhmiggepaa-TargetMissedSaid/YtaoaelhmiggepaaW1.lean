/- Walks, printed by a program: each function does what its model says. -/
import Derived.Test.YtaoaelhmiggepaaEnc
import Derived.Test.YtaoaelhmiggepaaW0
namespace Go.Proofs.Ytaoaelhmiggepaa
open Go.KL
set_option maxHeartbeats 4000000 in
theorem w_target_due_1 (p0 : Int) (w : World) (φ : PHeap) (hS : St ⟨w, [], φ⟩ φ [] w)  {r : Bool} (hm : m_target_due_1 p0 = some r) : Gv Try.prog 108 [.int .i64 p0] w (RetS w [] φ (fun φ_ L_ v => v = .bool r ∧ L_ = [])) := by
 unfold m_target_due_1 at hm
 refine Gv.of Try.func108 rfl Try.ntmps108 Try.results108 rfl ?_
 refine CK.seq ?_
 refine CK.reg (ks := []) (.fl 0 (.nil)) rfl ?_
 refine OKS.ra rfl rfl rfl rfl rfl rfl ?_
 refine OKS.e ?_
 refine thenQ_n ?_
 refine CK.seq ?_
 refine CK.reg (ks := []) (.fl 0 (.fx 1 (.fl 2 (.nil)) .stop)) rfl ?_
 refine OKS.rm rfl rfl rfl rfl rfl rfl ?_
 have q := bnd hm
 obtain ⟨x1, h2, hm3⟩ := q
 refine OKS.callH 0 rfl rfl rfl rfl (Enters.mk rfl rfl Try.call68 (mapcons rfl (mapcons rfl (mapcons rfl mapnil))) rfl) hS (fun hs => w_target_within p0 0 5 w φ hs h2) (.inr rfl) ?_
 rintro φ4 L5 v6 W7 le8 hS9 ⟨rfl, rfl⟩
 have hS10 : St ⟨w, [], φ⟩ φ4 [] W7 := hS9
 refine OKS.ra rfl rfl rfl rfl rfl rfl ?_
 refine OKS.e ?_
 refine thenQ_n ?_
 refine CK.ret ?_
 cases hm3
 exact ⟨rfl, _, (res1 rfl), φ4, _, hS10, rfl, rfl⟩

set_option maxHeartbeats 4000000 in
theorem w_target_CheckSheets_1 (p0 : T_target_Sheet) (p1 : Int) (pb1 : Nat) (w : World) (φ : PHeap) (hS : St ⟨w, [], φ⟩ φ [] w) (ha0 : Cl φ pb1 0 [.int .i64 p1]) {r : Bool} (hm : m_target_CheckSheets_1 p0 p1 = some r) : Gv Try.prog 129 [.agg #[.int .i64 p0.From, .int .i64 p0.To, .int .i64 p0.Loops.Lo, .int .i64 p0.Loops.Hi], .pointer (some ⟨pb1, 0, none⟩)] w (RetS w [] φ (fun φ_ L_ v => v = .bool r ∧ L_ = [])) := by
 unfold m_target_CheckSheets_1 at hm
 refine Gv.of Try.func129 rfl Try.ntmps129 Try.results129 rfl ?_
 refine CK.seq ?_
 refine CK.reg (ks := []) (.fx 0 (.fl 1 (.nil)) .stop) rfl ?_
 refine OKS.box (cs := [.int .i64 p0.From, .int .i64 p0.To, .int .i64 p0.Loops.Lo, .int .i64 p0.Loops.Hi]) rfl rfl rfl rfl rfl rfl (by rfl) hS ?_
 intro W1 b2 hS3
 refine OKS.ra rfl rfl rfl rfl rfl rfl ?_
 refine OKS.e ?_
 refine thenQ_n ?_
 refine CK.seq ?_
 refine CK.reg (ks := []) (.fl 0 (.fl 1 (.fl 2 (.fl 3 (.fx 4 (.fl 5 (.fl 6 (.fl 7 (.fl 8 (.fl 9 (.fl 10 (.fl 11 (.nil)))))))) .stop))))) rfl ?_
 refine OKS.r rfl rfl rfl rfl (fun _ => Runs.fa rfl rfl Try.runUnderlying31 rfl Try.sizeOf3) ?_
 refine OKS.m rfl rfl rfl rfl (hS3.ldB (j := 0) rfl rfl rfl Try.isAgg3 (v := .int .i64 p0.From) rfl) rfl ?_
 refine OKS.r rfl rfl rfl rfl (fun _ => Runs.fa rfl rfl Try.runUnderlying31 rfl Try.sizeOf3) ?_
 refine OKS.m rfl rfl rfl rfl (hS3.ldB (j := 0) rfl rfl rfl Try.isAgg3 (v := .int .i64 p0.To) rfl) rfl ?_
 have q := bnd hm
 obtain ⟨x5, h6, hm7⟩ := q
 refine OKS.callH 0 rfl rfl rfl rfl (Enters.mk rfl rfl Try.call68 (mapcons rfl (mapcons rfl (mapcons rfl mapnil))) rfl) hS3 (fun hs => w_target_within p0.From 0 p0.To W1 φ hs h6) (.inr rfl) ?_
 rintro φ8 L9 v10 W11 le12 hS13 ⟨rfl, rfl⟩
 have hS14 : St ⟨w, [], φ⟩ φ8 [.blk b2 31 [.int .i64 p0.From, .int .i64 p0.To, .int .i64 p0.Loops.Lo, .int .i64 p0.Loops.Hi]] W11 := hS13
 refine OKS.rm rfl rfl rfl rfl rfl rfl ?_
 by_cases c15 : x5 = true
 ·have hm16 := hm7; rw [if_pos c15] at hm16; replace c15 := Hid.mk c15
  refine OKS.r rfl rfl rfl (wantedY rfl rfl (congrArg Value.bool c15.out)) (fun _ => Runs.fa rfl rfl Try.runUnderlying31 rfl Try.sizeOf3) ?_
  refine OKS.m rfl rfl rfl (wantedY rfl rfl (congrArg Value.bool c15.out)) (hS14.ldB (j := 0) rfl rfl rfl Try.isAgg3 (v := .int .i64 p0.To) rfl) rfl ?_
  have h17 := ha0.le le12
  refine OKS.m rfl rfl rfl (wantedY rfl rfl (congrArg Value.bool c15.out)) (hS14.ldC (f := 0) h17 (v := .int .i64 p1) rfl rfl Try.isAgg3 rfl) rfl ?_
  refine OKS.r rfl rfl rfl (wantedY rfl rfl (congrArg Value.bool c15.out)) (fun _ => Runs.lss rfl rfl rfl) ?_
  refine OKS.r rfl rfl rfl rfl (fun _ => Runs.pickT rfl (congrArg Value.bool c15.out) rfl) ?_
  refine OKS.ra rfl rfl rfl rfl rfl rfl ?_
  refine OKS.e ?_
  refine thenQ_n ?_
  refine CK.ret ?_
  cases hm16
  exact ⟨rfl, _, (res1 rfl), φ8, _, (hS14.pick [] _ (by decide) rfl), rfl, rfl⟩
 ·have hm18 := hm7; rw [if_neg c15] at hm18; replace c15 := Hid.mk c15
  refine OKS.p rfl rfl rfl (wantedN rfl rfl (congrArg Value.bool (Bool.eq_false_iff.2 c15.out)) rfl) ?_
  refine OKS.p rfl rfl rfl (wantedN rfl rfl (congrArg Value.bool (Bool.eq_false_iff.2 c15.out)) rfl) ?_
  refine OKS.p rfl rfl rfl (wantedN rfl rfl (congrArg Value.bool (Bool.eq_false_iff.2 c15.out)) rfl) ?_
  refine OKS.p rfl rfl rfl (wantedN rfl rfl (congrArg Value.bool (Bool.eq_false_iff.2 c15.out)) rfl) ?_
  refine OKS.r rfl rfl rfl rfl (fun _ => Runs.pickF rfl (congrArg Value.bool (Bool.eq_false_iff.2 c15.out)) rfl) ?_
  refine OKS.ra rfl rfl rfl rfl rfl rfl ?_
  refine OKS.e ?_
  refine thenQ_n ?_
  refine CK.ret ?_
  cases hm18
  exact ⟨rfl, _, (res1 rfl), φ8, _, (hS14.pick [] _ (by decide) rfl), rfl, rfl⟩

set_option maxHeartbeats 4000000 in
theorem w_target_all_target_Sheet_1 (p0 : T_target_Sheet) (p1 : (T_target_Sheet → Option Bool)) (pb1 : Nat) (pv1 : Value) (w : World) (φ : PHeap) (hS : St ⟨w, [], φ⟩ φ [] w) (ha0 : Cl φ pb1 0 [pv1]) (ha1 : FnOK Try.prog φ pv1 ar193 rr193 p1) {r : Bool} (hm : m_target_all_target_Sheet_1 p0 p1 = some r) : Gv Try.prog 139 [.agg #[.int .i64 p0.From, .int .i64 p0.To, .int .i64 p0.Loops.Lo, .int .i64 p0.Loops.Hi], .pointer (some ⟨pb1, 0, none⟩)] w (RetS w [] φ (fun φ_ L_ v => v = .bool r ∧ L_ = [])) := by
 unfold m_target_all_target_Sheet_1 at hm
 refine Gv.of Try.func139 rfl Try.ntmps139 Try.results139 rfl ?_
 refine CK.seq ?_
 refine CK.reg (ks := []) (.fx 0 (.fl 1 (.nil)) .stop) rfl ?_
 refine OKS.box (cs := [.int .i64 p0.From, .int .i64 p0.To, .int .i64 p0.Loops.Lo, .int .i64 p0.Loops.Hi]) rfl rfl rfl rfl rfl rfl (by rfl) hS ?_
 intro W1 b2 hS3
 refine OKS.ra rfl rfl rfl rfl rfl rfl ?_
 refine OKS.e ?_
 refine thenQ_n ?_
 refine CK.seq ?_
 refine CK.reg (ks := []) (.fl 0 (.fl 1 (.fx 2 (.fl 3 (.fl 4 (.nil))) .stop))) rfl ?_
 refine OKS.m rfl rfl rfl rfl (hS3.ldC (f := 0) ha0 (v := pv1) rfl rfl Try.isAgg193 rfl) rfl ?_
 refine OKS.m rfl rfl rfl rfl (hS3.ldBA (j := 0) rfl rfl rfl Try.isAgg31 Try.sizeOf31 (vs := [.int .i64 p0.From, .int .i64 p0.To, .int .i64 p0.Loops.Lo, .int .i64 p0.Loops.Hi]) rfl rfl) rfl ?_
 have q := bnd hm
 obtain ⟨x5, h6, hm7⟩ := q
 refine OKS.callV (a := p0) rfl rfl rfl rfl rfl rfl (mapcons rfl mapnil) hS3 ha1 rfl h6 ?_
 rintro φ8 L9 v10 W11 le12 hS13 ⟨rfl, rfl⟩
 have hS14 : St ⟨w, [], φ⟩ φ8 [.blk b2 31 [.int .i64 p0.From, .int .i64 p0.To, .int .i64 p0.Loops.Lo, .int .i64 p0.Loops.Hi]] W11 := hS13
 refine OKS.r rfl rfl rfl rfl (fun _ => Runs.notT rfl rfl) ?_
 refine OKS.ra rfl rfl rfl rfl rfl rfl ?_
 refine OKS.e ?_
 refine thenQ_n ?_
 refine CK.ret ?_
 cases hm7
 exact ⟨rfl, _, (res1 rfl), φ8, _, (hS14.pick [] _ (by decide) rfl), rfl, rfl⟩

set_option maxHeartbeats 4000000 in
theorem w_slices_IndexFunc_target_Sheet_target_Sheet (p0 : List T_target_Sheet) (pA0 : Option Addr) (pc0 : Nat) (p1 : (T_target_Sheet → Option Bool)) (pv1 : Value) (w : World) (φ : PHeap) (hS : St ⟨w, [], φ⟩ φ [] w) (ha0 : Sl φ 4 pA0 pc0 p0.length (List.flatMap encT_target_Sheet p0)) (ha1 : FnOK Try.prog φ pv1 ar193 rr193 p1) {r : Int} (hm : m_slices_IndexFunc_target_Sheet_target_Sheet p0 p1 = some r) : Gv Try.prog 141 [.slice pA0 p0.length pc0, pv1] w (RetS w [] φ (fun φ_ L_ v => v = .int .i64 r ∧ L_ = [])) := by
 unfold m_slices_IndexFunc_target_Sheet_target_Sheet at hm
 refine Gv.of Try.func141 rfl Try.ntmps141 Try.results141 rfl ?_
 refine CK.seq ?_
 refine CK.reg (ks := []) (.fl 0 (.nil)) rfl ?_
 refine OKS.ra rfl rfl rfl rfl rfl rfl ?_
 refine OKS.e ?_
 refine thenQ_n ?_
 refine CK.seq ?_
 refine CK.seq ?_
 refine CK.reg (ks := []) (.fl 0 (.fl 1 (.fl 2 (.nil)))) rfl ?_
 refine OKS.rm rfl rfl rfl rfl rfl rfl ?_
 refine OKS.r rfl rfl rfl rfl (fun _ => Runs.len rfl rfl Try.runUnderlying23) ?_
 refine OKS.rm rfl rfl rfl rfl rfl rfl ?_
 refine OKS.e ?_
 refine thenQ_n ?_
 refine CK.block ?_
 have q := jn_some hm
 obtain ⟨r3, hX4⟩ := q
 have q := forR_le hX4
 obtain ⟨hle5, hf6⟩ := q
 replace hle5 := Hid.mk hle5
 refine CK.forN (fun k2 _ σ_ w_ => ∃ (φ_ : PHeap), σ_ 8 = .int .i64 (↑k2 : Int) ∧ σ_ 0 = .slice pA0 p0.length pc0 ∧ σ_ 1 = pv1 ∧ σ_ 7 = .int .i64 (↑p0.length : Int) ∧ PHeap.Le φ φ_ ∧ St ⟨w, [], φ⟩ φ_ [] w_) hf6 ?_ ?_ ?_
 ·exact ⟨φ, rfl, rfl, rfl, rfl, (PHeap.Le.refl _), hS⟩
 ·rintro k2 ⟨⟩ xx9 σ7 W8 hk12 ⟨φ14, fi13, f17, f18, f19, le15, hS16⟩ hx10 hb11
  try dsimp only at hx10
  have c20 : Hid ((↑k2 : Int) < (↑p0.length : Int)) := Hid.mk (lp_lt0 hk12)
  replace hk12 := Hid.mk hk12
  have hi21 : Hid (w64 ((↑k2 : Int) + 1) = (↑(k2 + 1) : Int)) := Hid.mk (by have h1 := hle5.out; have h2 := c20.out; rw [w64_in] <;> omega)
  refine CK.seq ?_
  refine CK.reg (ks := []) (.fl 0 (.nil)) rfl ?_
  refine OKS.r rfl rfl rfl rfl (fun _ => Runs.lss rfl fi13 f19) ?_
  refine OKS.e ?_
  refine thenQ_n ?_
  refine CK.seq ?_
  refine CK.condT (decT c20.out) ?_
  refine CK.skip ?_
  refine thenQ_n ?_
  refine CK.seq ?_
  refine CK.block ?_
  refine CK.seq ?_
  refine CK.reg (ks := []) (.fl 0 (.fl 1 (.nil))) rfl ?_
  refine OKS.rm rfl rfl rfl rfl rfl fi13 ?_
  refine OKS.ra rfl rfl rfl rfl rfl rfl ?_
  refine OKS.e ?_
  refine thenQ_n ?_
  refine CK.seq ?_
  refine CK.reg (ks := []) (.fl 0 (.fl 1 (.fl 2 (.fl 3 (.fl 4 (.fx 5 (.nil) .stop)))))) rfl ?_
  refine OKS.rm rfl rfl rfl rfl rfl f18 ?_
  refine OKS.rm rfl rfl rfl rfl rfl f17 ?_
  refine OKS.rm rfl rfl rfl rfl rfl rfl ?_
  have q := bnd hx10
  obtain ⟨x22, h23, hm24⟩ := q
  have h25 := ha0.le le15
  have q := h25.el (fun _ => rfl) (idx_get h23)
  obtain ⟨b26, off27, hA28, hC29⟩ := q
  refine OKS.r rfl rfl rfl rfl (fun _ => Runs.iaN rfl rfl hA28 rfl Try.runUnderlying23 Try.sizeOf31 (idx_lt h23)) ?_
  refine OKS.m rfl rfl rfl rfl (hS16.ldCA (f := 0) hC29 rfl rfl Try.isAgg31 Try.sizeOf31 (us := [.int .i64 x22.From, .int .i64 x22.To, .int .i64 x22.Loops.Lo, .int .i64 x22.Loops.Hi]) rfl rfl) rfl ?_
  have q := bnd hm24
  obtain ⟨x30, h31, hm32⟩ := q
  have h39 := ha1.le le15
  refine OKS.callV (a := x22) rfl rfl rfl rfl rfl rfl (mapcons rfl mapnil) hS16 h39 rfl h31 ?_
  rintro φ33 L34 v35 W36 le37 hS38 ⟨rfl, rfl⟩
  have hS40 : St ⟨w, [], φ⟩ φ33 [] W36 := hS38
  refine OKS.e ?_
  refine thenQ_n ?_
  by_cases c41 : x30 = true
  ·have hm42 := hm32; rw [if_pos c41] at hm42; replace c41 := Hid.mk c41
   refine CK.condT (congrArg Value.bool c41.out) ?_
   refine CK.seq ?_
   refine CK.reg (ks := []) (.fl 0 (.fl 1 (.nil))) rfl ?_
   refine OKS.rm rfl rfl rfl rfl rfl rfl ?_
   refine OKS.ra rfl rfl rfl rfl rfl rfl ?_
   refine OKS.e ?_
   refine thenQ_n ?_
   refine CK.ret ?_
   refine blockQ_r ?_
   refine thenQ_r ?_
   have q := esc_spec hm42
   obtain ⟨v43, hm44, e45⟩ := q
   obtain rfl := jn_inr hm hX4 (hb11 v43 e45)
   refine thenQ_r ?_
   refine blockQ_r ?_
   refine thenQ_r ?_
   cases hm44
   exact ⟨rfl, _, (res1 rfl), φ33, _, hS40, rfl, rfl⟩
  ·have hm46 := hm32; rw [if_neg c41] at hm46; replace c41 := Hid.mk c41
   refine CK.condF (congrArg Value.bool (Bool.eq_false_iff.2 c41.out)) ?_
   refine CK.skip ?_
   refine blockQ_n ?_
   refine thenQ_n ?_
   refine CK.reg (ks := []) (.fl 0 (.fl 1 (.nil))) rfl ?_
   refine OKS.r rfl rfl rfl rfl (fun _ => Runs.to (Runs.addw rfl fi13 rfl) (congrArg (Value.int .i64) hi21.out)) ?_
   refine OKS.rm rfl rfl rfl rfl rfl rfl ?_
   refine OKS.e ?_
   obtain rfl := Option.some.inj hm46
   exact thenQ_n ⟨rfl, _, rfl, ⟨φ33, rfl, f17, f18, f19, (le15.trans le37), hS40⟩⟩
 ·rintro ⟨⟩ σ47 W48 ⟨φ51, fi50, f54, f55, f56, le52, hS53⟩ hb49
  have hm57 := jn_inl hm hX4 hb49
  try dsimp only at hm57
  have c58 : Hid (¬ ((↑(((↑p0.length : Int) : Int) - 0).toNat : Int) < (↑p0.length : Int))) := Hid.mk (lp_end0)
  refine CK.seq ?_
  refine CK.reg (ks := []) (.fl 0 (.nil)) rfl ?_
  refine OKS.r rfl rfl rfl rfl (fun _ => Runs.lss rfl fi50 f56) ?_
  refine OKS.e ?_
  refine thenQ_n ?_
  refine CK.seq ?_
  refine CK.condF (decF c58.out) ?_
  refine CK.exit ?_
  refine thenQ_e ?_
  refine thenQ_e ?_
  refine blockQ_h ?_
  refine thenQ_n ?_
  refine CK.seq ?_
  refine CK.reg (ks := []) (.fl 0 (.nil)) rfl ?_
  refine OKS.ra rfl rfl rfl rfl rfl rfl ?_
  refine OKS.e ?_
  refine thenQ_n ?_
  refine CK.ret ?_
  cases hm57
  exact ⟨rfl, _, (res1 rfl), φ51, _, hS53, rfl, rfl⟩

set_option maxHeartbeats 4000000 in
theorem w_slices_ContainsFunc_target_Sheet_target_Sheet (p0 : List T_target_Sheet) (pA0 : Option Addr) (pc0 : Nat) (p1 : (T_target_Sheet → Option Bool)) (pv1 : Value) (w : World) (φ : PHeap) (hS : St ⟨w, [], φ⟩ φ [] w) (ha0 : Sl φ 4 pA0 pc0 p0.length (List.flatMap encT_target_Sheet p0)) (ha1 : FnOK Try.prog φ pv1 ar193 rr193 p1) {r : Bool} (hm : m_slices_ContainsFunc_target_Sheet_target_Sheet p0 p1 = some r) : Gv Try.prog 138 [.slice pA0 p0.length pc0, pv1] w (RetS w [] φ (fun φ_ L_ v => v = .bool r ∧ L_ = [])) := by
 unfold m_slices_ContainsFunc_target_Sheet_target_Sheet at hm
 refine Gv.of Try.func138 rfl Try.ntmps138 Try.results138 rfl ?_
 refine CK.seq ?_
 refine CK.reg (ks := []) (.fl 0 (.nil)) rfl ?_
 refine OKS.ra rfl rfl rfl rfl rfl rfl ?_
 refine OKS.e ?_
 refine thenQ_n ?_
 refine CK.seq ?_
 refine CK.reg (ks := []) (.fl 0 (.fl 1 (.fx 2 (.fl 3 (.fl 4 (.nil))) .stop))) rfl ?_
 refine OKS.rm rfl rfl rfl rfl rfl rfl ?_
 refine OKS.rm rfl rfl rfl rfl rfl rfl ?_
 have q := bnd hm
 obtain ⟨x1, h2, hm3⟩ := q
 refine OKS.callH 0 rfl rfl rfl rfl (Enters.mk rfl rfl Try.call141 (mapcons rfl (mapcons rfl mapnil)) rfl) hS (fun hs => w_slices_IndexFunc_target_Sheet_target_Sheet p0 pA0 pc0 p1 pv1 w φ hs ha0 ha1 h2) (.inr rfl) ?_
 rintro φ4 L5 v6 W7 le8 hS9 ⟨rfl, rfl⟩
 have hS10 : St ⟨w, [], φ⟩ φ4 [] W7 := hS9
 refine OKS.r rfl rfl rfl rfl (fun _ => Runs.geq rfl rfl rfl) ?_
 refine OKS.ra rfl rfl rfl rfl rfl rfl ?_
 refine OKS.e ?_
 refine thenQ_n ?_
 refine CK.ret ?_
 cases hm3
 exact ⟨rfl, _, (res1 rfl), φ4, _, hS10, rfl, rfl⟩

set_option maxHeartbeats 4000000 in
theorem w_target_all_target_Sheet (p0 : List T_target_Sheet) (pA0 : Option Addr) (pc0 : Nat) (p1 : (T_target_Sheet → Option Bool)) (pv1 : Value) (w : World) (φ : PHeap) (hS : St ⟨w, [], φ⟩ φ [] w) (ha0 : Sl φ 4 pA0 pc0 p0.length (List.flatMap encT_target_Sheet p0)) (ha1 : FnOK Try.prog φ pv1 ar193 rr193 p1) {r : Bool} (hm : m_target_all_target_Sheet p0 p1 = some r) : Gv Try.prog 128 [.slice pA0 p0.length pc0, pv1] w (RetS w [] φ (fun φ_ L_ v => v = .bool r ∧ L_ = [])) := by
 unfold m_target_all_target_Sheet at hm
 refine Gv.of Try.func128 rfl Try.ntmps128 Try.results128 rfl ?_
 refine CK.seq ?_
 refine CK.reg (ks := []) (.fx 0 (.fl 1 (.nil)) .stop) rfl ?_
 refine OKS.box (cs := [pv1]) rfl rfl rfl rfl rfl rfl (FnOK.cells ha1) hS ?_
 intro W1 b2 hS3
 have q := hS3.freeze (k := 0) rfl
 obtain ⟨φ5, le6, hC7, hS8⟩ := q
 replace hC7 := Cl.of hC7
 have hS9 : St ⟨w, [], φ⟩ φ5 [] W1 := hS8
 replace hC7 : Cl φ5 b2 0 [pv1] := hC7
 refine OKS.ra rfl rfl rfl rfl rfl rfl ?_
 refine OKS.e ?_
 refine thenQ_n ?_
 refine CK.seq ?_
 refine CK.reg (ks := []) (.fl 0 (.fl 1 (.fx 2 (.fl 3 (.fl 4 (.nil))) .stop))) rfl ?_
 refine OKS.rm rfl rfl rfl rfl rfl rfl ?_
 refine OKS.r rfl rfl rfl rfl (fun _ => Runs.mkf rfl mapnil (mapcons rfl mapnil)) ?_
 have h10 := ha0.le le6
 have h11 := ha1.le le6
 have hF12 : FnOK Try.prog φ5 (.func (.func 139) #[] #[.pointer (some ⟨b2, 0, none⟩)]) ar193 rr193 (fun x => m_target_all_target_Sheet_1 x p1) := ⟨139, [], [.pointer (some ⟨b2, 0, none⟩)], rfl, Try.call139, fun φ1 w1 x y vs le hs ha hm => by obtain rfl := ha; exact w_target_all_target_Sheet_1 x p1 b2 pv1 w1 φ1 hs (hC7.le le) (h11.le le) hm⟩
 have q := bnd hm
 obtain ⟨x13, h14, hm15⟩ := q
 refine OKS.callH 0 rfl rfl rfl rfl (Enters.mk rfl rfl Try.call138 (mapcons rfl (mapcons rfl mapnil)) rfl) hS9 (fun hs => w_slices_ContainsFunc_target_Sheet_target_Sheet p0 pA0 pc0 (fun x => m_target_all_target_Sheet_1 x p1) (.func (.func 139) #[] #[.pointer (some ⟨b2, 0, none⟩)]) W1 φ5 hs h10 hF12 h14) (.inr rfl) ?_
 rintro φ16 L17 v18 W19 le20 hS21 ⟨rfl, rfl⟩
 have hS22 : St ⟨w, [], φ⟩ φ16 [] W19 := hS21
 refine OKS.r rfl rfl rfl rfl (fun _ => Runs.notT rfl rfl) ?_
 refine OKS.ra rfl rfl rfl rfl rfl rfl ?_
 refine OKS.e ?_
 refine thenQ_n ?_
 refine CK.ret ?_
 cases hm15
 exact ⟨rfl, _, (res1 rfl), φ16, _, hS22, rfl, rfl⟩

set_option maxHeartbeats 4000000 in
theorem w_target_CheckSheets_2 (p0 : T_target_Sheet) (w : World) (φ : PHeap) (hS : St ⟨w, [], φ⟩ φ [] w)  {r : Bool} (hm : m_target_CheckSheets_2 p0 = some r) : Gv Try.prog 130 [.agg #[.int .i64 p0.From, .int .i64 p0.To, .int .i64 p0.Loops.Lo, .int .i64 p0.Loops.Hi]] w (RetS w [] φ (fun φ_ L_ v => v = .bool r ∧ L_ = [])) := by
 unfold m_target_CheckSheets_2 at hm
 refine Gv.of Try.func130 rfl Try.ntmps130 Try.results130 rfl ?_
 refine CK.seq ?_
 refine CK.reg (ks := []) (.fx 0 (.fl 1 (.nil)) .stop) rfl ?_
 refine OKS.box (cs := [.int .i64 p0.From, .int .i64 p0.To, .int .i64 p0.Loops.Lo, .int .i64 p0.Loops.Hi]) rfl rfl rfl rfl rfl rfl (by rfl) hS ?_
 intro W1 b2 hS3
 refine OKS.ra rfl rfl rfl rfl rfl rfl ?_
 refine OKS.e ?_
 refine thenQ_n ?_
 refine CK.seq ?_
 refine CK.reg (ks := []) (.fl 0 (.fl 1 (.fl 2 (.fl 3 (.fl 4 (.fl 5 (.fx 6 (.fl 7 (.fl 8 (.fl 9 (.fl 10 (.fl 11 (.fl 12 (.fl 13 (.nil)))))))) .stop))))))) rfl ?_
 refine OKS.r rfl rfl rfl rfl (fun _ => Runs.fa rfl rfl Try.runUnderlying31 rfl Try.sizeOf29) ?_
 refine OKS.r rfl rfl rfl rfl (fun _ => Runs.fa rfl rfl Try.runUnderlying29 rfl Try.sizeOf3) ?_
 refine OKS.m rfl rfl rfl rfl (hS3.ldB (j := 0) rfl rfl rfl Try.isAgg3 (v := .int .i64 p0.Loops.Lo) rfl) rfl ?_
 refine OKS.r rfl rfl rfl rfl (fun _ => Runs.fa rfl rfl Try.runUnderlying31 rfl Try.sizeOf29) ?_
 refine OKS.r rfl rfl rfl rfl (fun _ => Runs.fa rfl rfl Try.runUnderlying29 rfl Try.sizeOf3) ?_
 refine OKS.m rfl rfl rfl rfl (hS3.ldB (j := 0) rfl rfl rfl Try.isAgg3 (v := .int .i64 p0.Loops.Hi) rfl) rfl ?_
 have q := bnd hm
 obtain ⟨x5, h6, hm7⟩ := q
 refine OKS.callH 0 rfl rfl rfl rfl (Enters.mk rfl rfl Try.call68 (mapcons rfl (mapcons rfl (mapcons rfl mapnil))) rfl) hS3 (fun hs => w_target_within p0.Loops.Lo 0 p0.Loops.Hi W1 φ hs h6) (.inr rfl) ?_
 rintro φ8 L9 v10 W11 le12 hS13 ⟨rfl, rfl⟩
 have hS14 : St ⟨w, [], φ⟩ φ8 [.blk b2 31 [.int .i64 p0.From, .int .i64 p0.To, .int .i64 p0.Loops.Lo, .int .i64 p0.Loops.Hi]] W11 := hS13
 refine OKS.rm rfl rfl rfl rfl rfl rfl ?_
 by_cases c15 : x5 = true
 ·have hm16 := hm7; rw [if_pos c15] at hm16; replace c15 := Hid.mk c15
  refine OKS.r rfl rfl rfl (wantedY rfl rfl (congrArg Value.bool c15.out)) (fun _ => Runs.fa rfl rfl Try.runUnderlying31 rfl Try.sizeOf29) ?_
  refine OKS.r rfl rfl rfl (wantedY rfl rfl (congrArg Value.bool c15.out)) (fun _ => Runs.fa rfl rfl Try.runUnderlying29 rfl Try.sizeOf3) ?_
  refine OKS.m rfl rfl rfl (wantedY rfl rfl (congrArg Value.bool c15.out)) (hS14.ldB (j := 0) rfl rfl rfl Try.isAgg3 (v := .int .i64 p0.Loops.Hi) rfl) rfl ?_
  refine OKS.r rfl rfl rfl (wantedY rfl rfl (congrArg Value.bool c15.out)) (fun _ => Runs.leq rfl rfl rfl) ?_
  refine OKS.r rfl rfl rfl rfl (fun _ => Runs.pickT rfl (congrArg Value.bool c15.out) rfl) ?_
  refine OKS.ra rfl rfl rfl rfl rfl rfl ?_
  refine OKS.e ?_
  refine thenQ_n ?_
  refine CK.ret ?_
  cases hm16
  exact ⟨rfl, _, (res1 rfl), φ8, _, (hS14.pick [] _ (by decide) rfl), rfl, rfl⟩
 ·have hm17 := hm7; rw [if_neg c15] at hm17; replace c15 := Hid.mk c15
  refine OKS.p rfl rfl rfl (wantedN rfl rfl (congrArg Value.bool (Bool.eq_false_iff.2 c15.out)) rfl) ?_
  refine OKS.p rfl rfl rfl (wantedN rfl rfl (congrArg Value.bool (Bool.eq_false_iff.2 c15.out)) rfl) ?_
  refine OKS.p rfl rfl rfl (wantedN rfl rfl (congrArg Value.bool (Bool.eq_false_iff.2 c15.out)) rfl) ?_
  refine OKS.p rfl rfl rfl (wantedN rfl rfl (congrArg Value.bool (Bool.eq_false_iff.2 c15.out)) rfl) ?_
  refine OKS.r rfl rfl rfl rfl (fun _ => Runs.pickF rfl (congrArg Value.bool (Bool.eq_false_iff.2 c15.out)) rfl) ?_
  refine OKS.ra rfl rfl rfl rfl rfl rfl ?_
  refine OKS.e ?_
  refine thenQ_n ?_
  refine CK.ret ?_
  cases hm17
  exact ⟨rfl, _, (res1 rfl), φ8, _, (hS14.pick [] _ (by decide) rfl), rfl, rfl⟩

set_option maxHeartbeats 4000000 in
theorem w_target_CheckSheets (p0 : Int) (p1 : List T_target_Sheet) (pA1 : Option Addr) (pc1 : Nat) (w : World) (φ : PHeap) (hS : St ⟨w, [], φ⟩ φ [] w) (ha0 : Sl φ 4 pA1 pc1 p1.length (List.flatMap encT_target_Sheet p1)) {r : Int} (hm : m_target_CheckSheets p0 p1 = some r) : Gv Try.prog 109 [.int .i64 p0, .slice pA1 p1.length pc1] w (RetS w [] φ (fun φ_ L_ v => v = .int .i64 r ∧ L_ = [])) := by
 unfold m_target_CheckSheets at hm
 refine Gv.of Try.func109 rfl Try.ntmps109 Try.results109 rfl ?_
 refine CK.seq ?_
 refine CK.reg (ks := []) (.fx 0 (.fl 1 (.nil)) .stop) rfl ?_
 refine OKS.box (cs := [.int .i64 p0]) rfl rfl rfl rfl rfl rfl (by rfl) hS ?_
 intro W1 b2 hS3
 have q := hS3.freeze (k := 0) rfl
 obtain ⟨φ5, le6, hC7, hS8⟩ := q
 replace hC7 := Cl.of hC7
 have hS9 : St ⟨w, [], φ⟩ φ5 [] W1 := hS8
 replace hC7 : Cl φ5 b2 0 [.int .i64 p0] := hC7
 refine OKS.ra rfl rfl rfl rfl rfl rfl ?_
 refine OKS.e ?_
 refine thenQ_n ?_
 refine CK.seq ?_
 refine CK.block ?_
 refine CK.seq ?_
 refine CK.reg (ks := []) (.fl 0 (.fx 1 (.fl 2 (.fl 3 (.fl 4 (.fl 5 (.fl 6 (.fl 7 (.fl 8 (.nil)))))))) .stop)) rfl ?_
 refine OKS.m rfl rfl rfl rfl (hS9.ldC (f := 0) hC7 (v := .int .i64 p0) rfl rfl Try.isAgg3 rfl) rfl ?_
 have q := bnd hm
 obtain ⟨x10, h11, hm12⟩ := q
 refine OKS.callH 0 rfl rfl rfl rfl (Enters.mk rfl rfl Try.call68 (mapcons rfl (mapcons rfl (mapcons rfl mapnil))) rfl) hS9 (fun hs => w_target_within p0 1 8 W1 φ5 hs h11) (.inr rfl) ?_
 rintro φ13 L14 v15 W16 le17 hS18 ⟨rfl, rfl⟩
 have hS19 : St ⟨w, [], φ⟩ φ13 [] W16 := hS18
 refine OKS.r rfl rfl rfl rfl (fun _ => Runs.notT rfl rfl) ?_
 refine OKS.rm rfl rfl rfl rfl rfl rfl ?_
 by_cases c20 : x10 = true
 ·have hm21 := hm12; rw [if_pos c20] at hm21; replace c20 := Hid.mk c20
  refine OKS.rm rfl rfl rfl (wantedY rfl rfl (congrArg (fun b => Value.bool (!b)) c20.out)) rfl rfl ?_
  refine OKS.r rfl rfl rfl (wantedY rfl rfl (congrArg (fun b => Value.bool (!b)) c20.out)) (fun _ => Runs.len rfl rfl Try.runUnderlying23) ?_
  refine OKS.r rfl rfl rfl (wantedY rfl rfl (congrArg (fun b => Value.bool (!b)) c20.out)) (fun _ => Runs.gtr rfl rfl rfl) ?_
  refine OKS.r rfl rfl rfl rfl (fun _ => Runs.pickF rfl (congrArg (fun b => Value.bool (!b)) c20.out) rfl) ?_
  refine OKS.ra rfl rfl rfl rfl rfl rfl ?_
  refine OKS.e ?_
  refine thenQ_n ?_
  by_cases c22 : 20 < (↑p1.length : Int)
  ·have hm23 := hm21; rw [if_pos c22] at hm23; replace c22 := Hid.mk c22
   refine CK.condT (decT c22.out) ?_
   refine CK.seq ?_
   refine CK.reg (ks := []) (.fl 0 (.nil)) rfl ?_
   refine OKS.ra rfl rfl rfl rfl rfl rfl ?_
   refine OKS.e ?_
   refine thenQ_n ?_
   refine CK.ret ?_
   refine blockQ_r ?_
   refine thenQ_r ?_
   cases hm23
   exact ⟨rfl, _, (res1 rfl), φ13, _, hS19, rfl, rfl⟩
  ·have hm24 := hm21; rw [if_neg c22] at hm24; replace c22 := Hid.mk c22
   refine CK.condF (decF c22.out) ?_
   refine CK.seq ?_
   refine CK.reg (ks := []) (.fl 0 (.fl 1 (.fx 2 (.fl 3 (.fl 4 (.nil))) .stop))) rfl ?_
   refine OKS.rm rfl rfl rfl rfl rfl rfl ?_
   refine OKS.r rfl rfl rfl rfl (fun _ => Runs.mkf rfl mapnil (mapcons rfl mapnil)) ?_
   have h25 := ha0.le le6
   have h26 := h25.le le17
   have h27 := hC7.le le17
   have hF28 : FnOK Try.prog φ13 (.func (.func 129) #[] #[.pointer (some ⟨b2, 0, none⟩)]) ar193 rr193 (fun x => m_target_CheckSheets_1 x p0) := ⟨129, [], [.pointer (some ⟨b2, 0, none⟩)], rfl, Try.call129, fun φ1 w1 x y vs le hs ha hm => by obtain rfl := ha; exact w_target_CheckSheets_1 x p0 b2 w1 φ1 hs (h27.le le) hm⟩
   have q := bnd hm24
   obtain ⟨x29, h30, hm31⟩ := q
   refine OKS.callH 0 rfl rfl rfl rfl (Enters.mk rfl rfl Try.call128 (mapcons rfl (mapcons rfl mapnil)) rfl) hS19 (fun hs => w_target_all_target_Sheet p1 pA1 pc1 (fun x => m_target_CheckSheets_1 x p0) (.func (.func 129) #[] #[.pointer (some ⟨b2, 0, none⟩)]) W16 φ13 hs h26 hF28 h30) (.inr rfl) ?_
   rintro φ32 L33 v34 W35 le36 hS37 ⟨rfl, rfl⟩
   have hS38 : St ⟨w, [], φ⟩ φ32 [] W35 := hS37
   refine OKS.r rfl rfl rfl rfl (fun _ => Runs.notT rfl rfl) ?_
   refine OKS.ra rfl rfl rfl rfl rfl rfl ?_
   refine OKS.e ?_
   refine thenQ_n ?_
   by_cases c39 : x29 = true
   ·have hm40 := hm31; rw [if_pos c39] at hm40; replace c39 := Hid.mk c39
    refine CK.condF (congrArg (fun b => Value.bool (!b)) c39.out) ?_
    refine CK.seq ?_
    refine CK.reg (ks := []) (.fl 0 (.fx 1 (.fl 2 (.fl 3 (.nil))) .stop)) rfl ?_
    refine OKS.rm rfl rfl rfl rfl rfl rfl ?_
    have h41 := h26.le le36
    have hF42 : FnOK Try.prog φ32 (.func (.func 130) #[] #[]) ar193 rr193 m_target_CheckSheets_2 := ⟨130, [], [], rfl, Try.call130, fun φ1 w1 x y vs le hs ha hm => by obtain rfl := ha; exact w_target_CheckSheets_2 x w1 φ1 hs  hm⟩
    have q := bnd hm40
    obtain ⟨x43, h44, hm45⟩ := q
    refine OKS.callH 0 rfl rfl rfl rfl (Enters.mk rfl rfl Try.call128 (mapcons rfl (mapcons rfl mapnil)) rfl) hS38 (fun hs => w_target_all_target_Sheet p1 pA1 pc1 m_target_CheckSheets_2 (.func (.func 130) #[] #[]) W35 φ32 hs h41 hF42 h44) (.inr rfl) ?_
    rintro φ46 L47 v48 W49 le50 hS51 ⟨rfl, rfl⟩
    have hS52 : St ⟨w, [], φ⟩ φ46 [] W49 := hS51
    refine OKS.r rfl rfl rfl rfl (fun _ => Runs.notT rfl rfl) ?_
    refine OKS.ra rfl rfl rfl rfl rfl rfl ?_
    refine OKS.e ?_
    refine thenQ_n ?_
    by_cases c53 : x43 = true
    ·have hm54 := hm45; rw [if_pos c53] at hm54; replace c53 := Hid.mk c53
     refine CK.condF (congrArg (fun b => Value.bool (!b)) c53.out) ?_
     refine CK.skip ?_
     refine blockQ_n ?_
     refine thenQ_n ?_
     refine CK.seq ?_
     refine CK.reg (ks := []) (.fl 0 (.nil)) rfl ?_
     refine OKS.ra rfl rfl rfl rfl rfl rfl ?_
     refine OKS.e ?_
     refine thenQ_n ?_
     refine CK.ret ?_
     cases hm54
     exact ⟨rfl, _, (res1 rfl), φ46, _, hS52, rfl, rfl⟩
    ·have hm55 := hm45; rw [if_neg c53] at hm55; replace c53 := Hid.mk c53
     refine CK.condT (congrArg (fun b => Value.bool (!b)) (Bool.eq_false_iff.2 c53.out)) ?_
     refine CK.seq ?_
     refine CK.reg (ks := []) (.fl 0 (.nil)) rfl ?_
     refine OKS.ra rfl rfl rfl rfl rfl rfl ?_
     refine OKS.e ?_
     refine thenQ_n ?_
     refine CK.ret ?_
     refine blockQ_r ?_
     refine thenQ_r ?_
     cases hm55
     exact ⟨rfl, _, (res1 rfl), φ46, _, hS52, rfl, rfl⟩
   ·have hm56 := hm31; rw [if_neg c39] at hm56; replace c39 := Hid.mk c39
    refine CK.condT (congrArg (fun b => Value.bool (!b)) (Bool.eq_false_iff.2 c39.out)) ?_
    refine CK.seq ?_
    refine CK.reg (ks := []) (.fl 0 (.nil)) rfl ?_
    refine OKS.ra rfl rfl rfl rfl rfl rfl ?_
    refine OKS.e ?_
    refine thenQ_n ?_
    refine CK.ret ?_
    refine blockQ_r ?_
    refine thenQ_r ?_
    cases hm56
    exact ⟨rfl, _, (res1 rfl), φ32, _, hS38, rfl, rfl⟩
 ·have hm57 := hm12; rw [if_neg c20] at hm57; replace c20 := Hid.mk c20
  refine OKS.p rfl rfl rfl (wantedN rfl rfl (congrArg (fun b => Value.bool (!b)) (Bool.eq_false_iff.2 c20.out)) rfl) ?_
  refine OKS.p rfl rfl rfl (wantedN rfl rfl (congrArg (fun b => Value.bool (!b)) (Bool.eq_false_iff.2 c20.out)) rfl) ?_
  refine OKS.p rfl rfl rfl (wantedN rfl rfl (congrArg (fun b => Value.bool (!b)) (Bool.eq_false_iff.2 c20.out)) rfl) ?_
  refine OKS.r rfl rfl rfl rfl (fun _ => Runs.pickT rfl (congrArg (fun b => Value.bool (!b)) (Bool.eq_false_iff.2 c20.out)) rfl) ?_
  refine OKS.ra rfl rfl rfl rfl rfl rfl ?_
  refine OKS.e ?_
  refine thenQ_n ?_
  refine CK.condT rfl ?_
  refine CK.seq ?_
  refine CK.reg (ks := []) (.fl 0 (.nil)) rfl ?_
  refine OKS.ra rfl rfl rfl rfl rfl rfl ?_
  refine OKS.e ?_
  refine thenQ_n ?_
  refine CK.ret ?_
  refine blockQ_r ?_
  refine thenQ_r ?_
  cases hm57
  exact ⟨rfl, _, (res1 rfl), φ13, _, hS19, rfl, rfl⟩

set_option maxHeartbeats 4000000 in
theorem w_target_due (p0 : List Int) (pA0 : Option Addr) (pc0 : Nat) (p1 : List T_target_Sheet) (pA1 : Option Addr) (pc1 : Nat) (w : World) (φ : PHeap) (hS : St ⟨w, [], φ⟩ φ [] w) (ha0 : Sl φ 1 pA0 pc0 p0.length (List.flatMap encI p0)) (ha1 : Sl φ 4 pA1 pc1 p1.length (List.flatMap encT_target_Sheet p1)) {r : Int} (hm : m_target_due p0 p1 = some r) : Gv Try.prog 64 [.slice pA0 p0.length pc0, .slice pA1 p1.length pc1] w (RetS w [] φ (fun φ_ L_ v => v = .int .i64 r ∧ L_ = [])) := by
 unfold m_target_due at hm
 refine Gv.of Try.func64 rfl Try.ntmps64 Try.results64 rfl ?_
 refine CK.seq ?_
 refine CK.reg (ks := []) (.fl 0 (.nil)) rfl ?_
 refine OKS.ra rfl rfl rfl rfl rfl rfl ?_
 refine OKS.e ?_
 refine thenQ_n ?_
 refine CK.seq ?_
 refine CK.block ?_
 refine CK.seq ?_
 refine CK.reg (ks := []) (.fl 0 (.fl 1 (.fx 2 (.fl 3 (.fl 4 (.nil))) .stop))) rfl ?_
 refine OKS.rm rfl rfl rfl rfl rfl rfl ?_
 refine OKS.r rfl rfl rfl rfl (fun _ => Runs.len rfl rfl Try.runUnderlying22) ?_
 have q := bnd hm
 obtain ⟨x1, h2, hm3⟩ := q
 refine OKS.callH 0 rfl rfl rfl rfl (Enters.mk rfl rfl Try.call68 (mapcons rfl (mapcons rfl (mapcons rfl mapnil))) rfl) hS (fun hs => w_target_within (↑p0.length : Int) 1 8 w φ hs h2) (.inr rfl) ?_
 rintro φ4 L5 v6 W7 le8 hS9 ⟨rfl, rfl⟩
 have hS10 : St ⟨w, [], φ⟩ φ4 [] W7 := hS9
 refine OKS.r rfl rfl rfl rfl (fun _ => Runs.notT rfl rfl) ?_
 refine OKS.ra rfl rfl rfl rfl rfl rfl ?_
 refine OKS.e ?_
 refine thenQ_n ?_
 by_cases c11 : x1 = true
 ·have hm12 := hm3; rw [if_pos c11] at hm12; replace c11 := Hid.mk c11
  refine CK.condF (congrArg (fun b => Value.bool (!b)) c11.out) ?_
  refine CK.seq ?_
  refine CK.reg (ks := []) (.fl 0 (.fx 1 (.fl 2 (.fl 3 (.nil))) .stop)) rfl ?_
  refine OKS.rm rfl rfl rfl rfl rfl rfl ?_
  have h13 := ha0.le le8
  have hF14 : FnOK Try.prog φ4 (.func (.func 108) #[] #[]) ar107 rr107 m_target_due_1 := ⟨108, [], [], rfl, Try.call108, fun φ1 w1 x y vs le hs ha hm => by obtain rfl := ha; exact w_target_due_1 x w1 φ1 hs  hm⟩
  have q := bnd hm12
  obtain ⟨x15, h16, hm17⟩ := q
  refine OKS.callH 0 rfl rfl rfl rfl (Enters.mk rfl rfl Try.call101 (mapcons rfl (mapcons rfl mapnil)) rfl) hS10 (fun hs => w_target_all_int p0 pA0 pc0 m_target_due_1 (.func (.func 108) #[] #[]) W7 φ4 hs h13 hF14 h16) (.inr rfl) ?_
  rintro φ18 L19 v20 W21 le22 hS23 ⟨rfl, rfl⟩
  have hS24 : St ⟨w, [], φ⟩ φ18 [] W21 := hS23
  refine OKS.r rfl rfl rfl rfl (fun _ => Runs.notT rfl rfl) ?_
  refine OKS.ra rfl rfl rfl rfl rfl rfl ?_
  refine OKS.e ?_
  refine thenQ_n ?_
  by_cases c25 : x15 = true
  ·have hm26 := hm17; rw [if_pos c25] at hm26; replace c25 := Hid.mk c25
   refine CK.condF (congrArg (fun b => Value.bool (!b)) c25.out) ?_
   refine CK.skip ?_
   refine blockQ_n ?_
   refine thenQ_n ?_
   refine CK.seq ?_
   refine CK.reg (ks := []) (.fl 0 (.fl 1 (.fl 2 (.fx 3 (.fl 4 (.nil)) .stop)))) rfl ?_
   refine OKS.rm rfl rfl rfl rfl rfl rfl ?_
   refine OKS.r rfl rfl rfl rfl (fun _ => Runs.len rfl rfl Try.runUnderlying22) ?_
   refine OKS.rm rfl rfl rfl rfl rfl rfl ?_
   have h27 := ha1.le le8
   have h28 := h27.le le22
   have q := bnd hm26
   obtain ⟨x29, h30, hm31⟩ := q
   refine OKS.callH 0 rfl rfl rfl rfl (Enters.mk rfl rfl Try.call109 (mapcons rfl (mapcons rfl mapnil)) rfl) hS24 (fun hs => w_target_CheckSheets (↑p0.length : Int) p1 pA1 pc1 W21 φ18 hs h28 h30) (.inr rfl) ?_
   rintro φ32 L33 v34 W35 le36 hS37 ⟨rfl, rfl⟩
   have hS38 : St ⟨w, [], φ⟩ φ32 [] W35 := hS37
   refine OKS.ra rfl rfl rfl rfl rfl rfl ?_
   refine OKS.e ?_
   refine thenQ_n ?_
   refine CK.ret ?_
   cases hm31
   exact ⟨rfl, _, (res1 rfl), φ32, _, hS38, rfl, rfl⟩
  ·have hm39 := hm17; rw [if_neg c25] at hm39; replace c25 := Hid.mk c25
   refine CK.condT (congrArg (fun b => Value.bool (!b)) (Bool.eq_false_iff.2 c25.out)) ?_
   refine CK.seq ?_
   refine CK.reg (ks := []) (.fl 0 (.nil)) rfl ?_
   refine OKS.ra rfl rfl rfl rfl rfl rfl ?_
   refine OKS.e ?_
   refine thenQ_n ?_
   refine CK.ret ?_
   refine blockQ_r ?_
   refine thenQ_r ?_
   cases hm39
   exact ⟨rfl, _, (res1 rfl), φ18, _, hS24, rfl, rfl⟩
 ·have hm40 := hm3; rw [if_neg c11] at hm40; replace c11 := Hid.mk c11
  refine CK.condT (congrArg (fun b => Value.bool (!b)) (Bool.eq_false_iff.2 c11.out)) ?_
  refine CK.seq ?_
  refine CK.reg (ks := []) (.fl 0 (.nil)) rfl ?_
  refine OKS.ra rfl rfl rfl rfl rfl rfl ?_
  refine OKS.e ?_
  refine thenQ_n ?_
  refine CK.ret ?_
  refine blockQ_r ?_
  refine thenQ_r ?_
  cases hm40
  exact ⟨rfl, _, (res1 rfl), φ4, _, hS10, rfl, rfl⟩

set_option maxHeartbeats 4000000 in
theorem w_target_links_1_1 (p0 : Int) (pb0 : Nat) (w : World) (φ : PHeap) (hS : St ⟨w, [], φ⟩ φ [] w) (ha0 : Cl φ pb0 0 [.int .i64 p0]) {r : Int} (hm : m_target_links_1_1 p0 = some r) : Gv Try.prog 111 [.pointer (some ⟨pb0, 0, none⟩)] w (RetS w [] φ (fun φ_ L_ v => v = .int .i64 r ∧ L_ = [])) := by
 unfold m_target_links_1_1 at hm
 refine Gv.of Try.func111 rfl Try.ntmps111 Try.results111 rfl ?_
 refine CK.seq ?_
 refine CK.reg (ks := []) (.fl 0 (.nil)) rfl ?_
 refine OKS.ra rfl rfl rfl rfl rfl rfl ?_
 refine OKS.e ?_
 refine thenQ_n ?_
 refine CK.seq ?_
 refine CK.reg (ks := []) (.fl 0 (.fl 1 (.nil))) rfl ?_
 refine OKS.m rfl rfl rfl rfl (hS.ldC (f := 0) ha0 (v := .int .i64 p0) rfl rfl Try.isAgg3 rfl) rfl ?_
 refine OKS.ra rfl rfl rfl rfl rfl rfl ?_
 refine OKS.e ?_
 refine thenQ_n ?_
 refine CK.ret ?_
 cases hm
 exact ⟨rfl, _, (res1 rfl), φ, _, hS, rfl, rfl⟩

set_option maxHeartbeats 4000000 in
theorem w_target_links_1 (p0 : Int) (w : World) (φ : PHeap) (hS : St ⟨w, [], φ⟩ φ [] w)  {r : (Unit → Option Int)} (hm : m_target_links_1 p0 = some r) : Gv Try.prog 110 [.int .i64 p0] w (RetS w [] φ (fun φ_ L_ v => True ∧ L_ = [] ∧ FnOK Try.prog φ_ v ar132 rr132 r)) := by
 unfold m_target_links_1 at hm
 refine Gv.of Try.func110 rfl Try.ntmps110 Try.results110 rfl ?_
 refine CK.seq ?_
 refine CK.reg (ks := []) (.fx 0 (.fl 1 (.nil)) .stop) rfl ?_
 refine OKS.box (cs := [.int .i64 p0]) rfl rfl rfl rfl rfl rfl (by rfl) hS ?_
 intro W1 b2 hS3
 have q := hS3.freeze (k := 0) rfl
 obtain ⟨φ5, le6, hC7, hS8⟩ := q
 replace hC7 := Cl.of hC7
 have hS9 : St ⟨w, [], φ⟩ φ5 [] W1 := hS8
 replace hC7 : Cl φ5 b2 0 [.int .i64 p0] := hC7
 refine OKS.ra rfl rfl rfl rfl rfl rfl ?_
 refine OKS.e ?_
 refine thenQ_n ?_
 refine CK.seq ?_
 refine CK.reg (ks := []) (.fl 0 (.fl 1 (.nil))) rfl ?_
 refine OKS.r rfl rfl rfl rfl (fun _ => Runs.mkf rfl mapnil (mapcons rfl mapnil)) ?_
 refine OKS.ra rfl rfl rfl rfl rfl rfl ?_
 refine OKS.e ?_
 refine thenQ_n ?_
 refine CK.ret ?_
 have hF10 : FnOK Try.prog φ5 (.func (.func 111) #[] #[.pointer (some ⟨b2, 0, none⟩)]) ar132 rr132 (fun _ => m_target_links_1_1 p0) := ⟨111, [], [.pointer (some ⟨b2, 0, none⟩)], rfl, Try.call111, fun φ1 w1 x y vs le hs ha hm => by obtain rfl := ha; exact w_target_links_1_1 p0 b2 w1 φ1 hs (hC7.le le) hm⟩
 cases hm
 exact ⟨rfl, _, (res1 rfl), φ5, _, hS9, trivial, rfl, hF10⟩

set_option maxHeartbeats 4000000 in
theorem w_target_links (p0 : Int) (p1 : List T_target_Sheet) (pA1 : Option Addr) (pc1 : Nat) (p2 : List Int) (pA2 : Option Addr) (pc2 : Nat) (w : World) (φ : PHeap) (hS : St ⟨w, [], φ⟩ φ [] w) (ha0 : Sl φ 4 pA1 pc1 p1.length (List.flatMap encT_target_Sheet p1)) (ha1 : Sl φ 1 pA2 pc2 p2.length (List.flatMap encI p2)) {r : (List T_target_link)} (hm : m_target_links p0 p1 p2 = some r) : Gv Try.prog 66 [.int .i64 p0, .slice pA1 p1.length pc1, .slice pA2 p2.length pc2] w (RetS w [] φ (fun φ_ L_ v => ∃ (A0 : Option Addr) (c0 : Nat) (cs0 : List Value), v = .slice A0 r.length c0 ∧ L_ = [.row A0 c0 134 5 cs0] ∧ RlL φ_ rl134 r cs0)) := by
 unfold m_target_links at hm
 refine Gv.of Try.func66 rfl Try.ntmps66 Try.results66 rfl ?_
 refine CK.seq ?_
 refine CK.reg (ks := []) (.fl 0 (.nil)) rfl ?_
 refine OKS.ra rfl rfl rfl rfl rfl rfl ?_
 refine OKS.e ?_
 refine thenQ_n ?_
 refine CK.seq ?_
 refine CK.reg (ks := []) (.fl 0 (.nil)) rfl ?_
 refine OKS.ra rfl rfl rfl rfl rfl rfl ?_
 refine OKS.e ?_
 refine thenQ_n ?_
 refine CK.seq ?_
 refine CK.reg (ks := []) (.fl 0 (.nil)) rfl ?_
 refine OKS.ra rfl rfl rfl rfl rfl rfl ?_
 refine OKS.e ?_
 refine thenQ_n ?_
 refine CK.seq ?_
 refine CK.seq ?_
 refine CK.reg (ks := []) (.fl 0 (.fl 1 (.fl 2 (.nil)))) rfl ?_
 refine OKS.rm rfl rfl rfl rfl rfl rfl ?_
 refine OKS.r rfl rfl rfl rfl (fun _ => Runs.len rfl rfl Try.runUnderlying23) ?_
 refine OKS.rm rfl rfl rfl rfl rfl rfl ?_
 refine OKS.e ?_
 refine thenQ_n ?_
 refine CK.block ?_
 have q := bnd hm
 obtain ⟨y27, hf24, hm23⟩ := q
 have q := forR'_le hf24
 obtain ⟨hle25, hf26⟩ := q
 replace hle25 := Hid.mk hle25
 refine CK.forN' (fun k22 l17 σ_ w_ => ∃ (φ_ : PHeap) (A18 : Option Addr) (c19 : Nat) (cs21 : List Value), σ_ 16 = .int .i64 (↑k22 : Int) ∧ σ_ 0 = .int .i64 p0 ∧ σ_ 2 = .slice pA2 p2.length pc2 ∧ σ_ 7 = .func (.func 110) #[] #[] ∧ σ_ 8 = .slice A18 l17.length c19 ∧ σ_ 14 = .slice pA1 p1.length pc1 ∧ σ_ 15 = .int .i64 (↑p1.length : Int) ∧ PHeap.Le φ φ_ ∧ St ⟨w, [], φ⟩ φ_ [.row A18 c19 134 5 cs21] w_ ∧ RlL φ_ rl134 l17 cs21) hf26 ?_ ?_ ?_
 ·have hS28 := hS.nilrow 134 5
  exact ⟨φ, none, 0, [], rfl, rfl, rfl, rfl, rfl, rfl, rfl, (PHeap.Le.refl _), hS28, RlL.nil⟩
 ·rintro k22 l17 xx32 σ30 W31 hk35 ⟨φ37, A18, c19, cs21, fi36, f40, f41, f42, f43, f44, f45, le38, hS39, h46⟩ hx33
  have c47 : Hid ((↑k22 : Int) < (↑p1.length : Int)) := Hid.mk (lp_lt0 hk35)
  replace hk35 := Hid.mk hk35
  have hi48 : Hid (w64 ((↑k22 : Int) + 1) = (↑(k22 + 1) : Int)) := Hid.mk (by have h1 := hle25.out; have h2 := c47.out; rw [w64_in] <;> omega)
  refine CK.seq ?_
  refine CK.reg (ks := []) (.fl 0 (.nil)) rfl ?_
  refine OKS.r rfl rfl rfl rfl (fun _ => Runs.lss rfl fi36 f45) ?_
  refine OKS.e ?_
  refine thenQ_n ?_
  refine CK.seq ?_
  refine CK.condT (decT c47.out) ?_
  refine CK.skip ?_
  refine thenQ_n ?_
  refine CK.seq ?_
  refine CK.block ?_
  refine CK.seq ?_
  refine CK.reg (ks := []) (.fl 0 (.fl 1 (.fl 2 (.fx 3 (.fl 4 (.fx 5 (.nil) .stop)) .stop)))) rfl ?_
  refine OKS.rm rfl rfl rfl rfl rfl fi36 ?_
  have q := bnd hx33
  obtain ⟨x49, h50, hm51⟩ := q
  have h52 := ha0.le le38
  have q := h52.el (fun _ => rfl) (idx_get h50)
  obtain ⟨b53, off54, hA55, hC56⟩ := q
  refine OKS.r rfl rfl rfl rfl (fun _ => Runs.iaN rfl f44 hA55 fi36 Try.runUnderlying23 Try.sizeOf31 (idx_lt h50)) ?_
  refine OKS.m rfl rfl rfl rfl (hS39.ldCA (f := 0) hC56 rfl rfl Try.isAgg31 Try.sizeOf31 (us := [.int .i64 x49.From, .int .i64 x49.To, .int .i64 x49.Loops.Lo, .int .i64 x49.Loops.Hi]) rfl rfl) rfl ?_
  refine OKS.alloc (cs := [.int .i64 0, .int .i64 0, .int .i64 0, .int .i64 0]) rfl rfl rfl rfl rfl Try.zeroValue31 rfl hS39 ?_
  intro W57 b58 hS59
  refine OKS.ra rfl rfl rfl rfl rfl rfl ?_
  refine OKS.st (j := 0) (vs := [.int .i64 x49.From, .int .i64 x49.To, .int .i64 x49.Loops.Lo, .int .i64 x49.Loops.Hi]) rfl rfl rfl rfl hS59 rfl rfl rfl rfl Try.sizeOf31 (Nat.le_of_ble_eq_true rfl) rfl rfl rfl ?_
  intro W61 hS62
  have hS63 : St ⟨w, [], φ⟩ φ37 [.blk b58 31 [.int .i64 x49.From, .int .i64 x49.To, .int .i64 x49.Loops.Lo, .int .i64 x49.Loops.Hi], .row A18 c19 134 5 cs21] W61 := hS62
  refine OKS.e ?_
  refine thenQ_n ?_
  refine CK.anyOrd Try.mixed [3, 3, 3, 3, 1, 3, 1, 3, 3, 3, 3, 1, 2, 3, 3, 3, 3, 1, 3, 3, 1, 3, 3, 3, 1, 3, 2, 3, 2, 0, 3] (.fl 0 (.fl 1 (.fl 2 (.fl 3 (.fl 4 (.fl 5 (.fl 6 (.fl 7 (.fl 8 (.fl 9 (.fl 10 (.fl 11 (.fl 14 (.fl 15 (.fl 16 (.fl 17 (.fl 18 (.fl 19 (.fl 20 (.fl 21 (.fl 22 (.fl 23 (.fl 24 (.fl 25 (.fx 12 (.fl 13 (.fx 26 (.fl 27 (.fx 28 (.fx 29 (.fl 30 (.nil)) .stop) .stop)) .stop)) .stop))))))))))))))))))))))))) (by kernel_rfl) ?_
  have hS64 := hS63.drew
  generalize hw_W65 : ({ W61 with drawn := W61.drawn + 1 } : World) = W65 at hS64 ⊢
  refine OKS.rm rfl rfl rfl rfl rfl f43 ?_
  refine OKS.rm rfl rfl rfl rfl rfl rfl ?_
  refine OKS.r rfl rfl rfl rfl (fun _ => Runs.build (pv := [(0, .int .i64 0), (1, .int .i64 (↑k22 : Int))]) (z := [.int .i64 0, .int .i64 0]) (cs := [.int .i64 0, .int .i64 (↑k22 : Int)]) rfl (mapcons2 rfl (mapcons2 rfl mapnil2)) Try.zeroValue35 places35 rfl rfl) ?_
  refine OKS.r rfl rfl rfl rfl (fun _ => Runs.fa rfl rfl Try.runUnderlying31 rfl Try.sizeOf3) ?_
  refine OKS.m rfl rfl rfl rfl (hS64.ldB (j := 0) rfl rfl rfl Try.isAgg3 (v := .int .i64 x49.From) rfl) rfl ?_
  refine OKS.r rfl rfl rfl rfl (fun _ => Runs.fa rfl rfl Try.runUnderlying31 rfl Try.sizeOf3) ?_
  refine OKS.m rfl rfl rfl rfl (hS64.ldB (j := 0) rfl rfl rfl Try.isAgg3 (v := .int .i64 x49.To) rfl) rfl ?_
  refine OKS.r rfl rfl rfl rfl (fun _ => Runs.addw rfl rfl rfl) ?_
  refine OKS.rm rfl rfl rfl rfl rfl f42 ?_
  refine OKS.r rfl rfl rfl rfl (fun _ => Runs.fa rfl rfl Try.runUnderlying31 rfl Try.sizeOf29) ?_
  refine OKS.r rfl rfl rfl rfl (fun _ => Runs.fa rfl rfl Try.runUnderlying29 rfl Try.sizeOf3) ?_
  refine OKS.m rfl rfl rfl rfl (hS64.ldB (j := 0) rfl rfl rfl Try.isAgg3 (v := .int .i64 x49.Loops.Hi) rfl) rfl ?_
  refine OKS.rm rfl rfl rfl rfl rfl rfl ?_
  refine OKS.r rfl rfl rfl rfl (fun _ => Runs.build (pv := [(0, .int .i64 1), (1, .int .i64 (↑k22 : Int))]) (z := [.int .i64 0, .int .i64 0]) (cs := [.int .i64 1, .int .i64 (↑k22 : Int)]) rfl (mapcons2 rfl (mapcons2 rfl mapnil2)) Try.zeroValue35 places35 rfl rfl) ?_
  refine OKS.r rfl rfl rfl rfl (fun _ => Runs.fa rfl rfl Try.runUnderlying31 rfl Try.sizeOf3) ?_
  refine OKS.m rfl rfl rfl rfl (hS64.ldB (j := 0) rfl rfl rfl Try.isAgg3 (v := .int .i64 x49.To) rfl) rfl ?_
  refine OKS.r rfl rfl rfl rfl (fun _ => Runs.addw rfl rfl rfl) ?_
  refine OKS.r rfl rfl rfl rfl (fun _ => Runs.fa rfl rfl Try.runUnderlying31 rfl Try.sizeOf3) ?_
  refine OKS.m rfl rfl rfl rfl (hS64.ldB (j := 0) rfl rfl rfl Try.isAgg3 (v := .int .i64 x49.From) rfl) rfl ?_
  refine OKS.rm rfl rfl rfl rfl rfl f42 ?_
  refine OKS.r rfl rfl rfl rfl (fun _ => Runs.fa rfl rfl Try.runUnderlying31 rfl Try.sizeOf29) ?_
  refine OKS.r rfl rfl rfl rfl (fun _ => Runs.fa rfl rfl Try.runUnderlying29 rfl Try.sizeOf3) ?_
  refine OKS.m rfl rfl rfl rfl (hS64.ldB (j := 0) rfl rfl rfl Try.isAgg3 (v := .int .i64 x49.Loops.Lo) rfl) rfl ?_
  refine OKS.r rfl rfl rfl rfl (fun _ => Runs.negw rfl rfl) ?_
  have q := bnd hm51
  obtain ⟨x66, h67, hm68⟩ := q
  refine OKS.callH 0 rfl rfl rfl rfl (Enters.mk rfl rfl Try.call110 (mapcons rfl mapnil) rfl) hS64 (fun hs => w_target_links_1 x49.Loops.Hi W65 φ37 hs h67) (.inr rfl) ?_
  rintro φ69 L70 v71 W72 le73 hS74 ⟨_, rfl, h75⟩
  have hS76 : St ⟨w, [], φ⟩ φ69 [.blk b58 31 [.int .i64 x49.From, .int .i64 x49.To, .int .i64 x49.Loops.Lo, .int .i64 x49.Loops.Hi], .row A18 c19 134 5 cs21] W72 := hS74
  have q := id h75
  obtain ⟨fid77, fst78, cap79, he80, _⟩ := q
  subst he80
  refine OKS.r rfl rfl rfl rfl (fun _ => Runs.build (pv := [(0, .agg #[.int .i64 0, .int .i64 (↑k22 : Int)]), (1, .int .i64 x49.From), (2, .int .i64 (w64 (x49.To + 1))), (3, (.func (.func fid77) (List.toArray fst78) (List.toArray cap79)))]) (z := [.int .i64 0, .int .i64 0, .int .i64 0, .int .i64 0, .nilFunc]) (cs := [.int .i64 0, .int .i64 (↑k22 : Int), .int .i64 x49.From, .int .i64 (w64 (x49.To + 1)), (.func (.func fid77) (List.toArray fst78) (List.toArray cap79))]) rfl (mapcons2 rfl (mapcons2 rfl (mapcons2 rfl (mapcons2 rfl mapnil2)))) Try.zeroValue134 places134 rfl rfl) ?_
  have q := bnd hm68
  obtain ⟨x81, h82, hm83⟩ := q
  refine OKS.callH 0 rfl rfl rfl rfl (Enters.mk rfl rfl Try.call110 (mapcons rfl mapnil) rfl) hS76 (fun hs => w_target_links_1 (w64 (-x49.Loops.Lo)) W72 φ69 hs h82) (.inr rfl) ?_
  rintro φ84 L85 v86 W87 le88 hS89 ⟨_, rfl, h90⟩
  have hS91 : St ⟨w, [], φ⟩ φ84 [.blk b58 31 [.int .i64 x49.From, .int .i64 x49.To, .int .i64 x49.Loops.Lo, .int .i64 x49.Loops.Hi], .row A18 c19 134 5 cs21] W87 := hS89
  have q := id h90
  obtain ⟨fid92, fst93, cap94, he95, _⟩ := q
  subst he95
  refine OKS.r rfl rfl rfl rfl (fun _ => Runs.build (pv := [(0, .agg #[.int .i64 1, .int .i64 (↑k22 : Int)]), (1, .int .i64 (w64 (x49.To + 1))), (2, .int .i64 x49.From), (3, (.func (.func fid92) (List.toArray fst93) (List.toArray cap94)))]) (z := [.int .i64 0, .int .i64 0, .int .i64 0, .int .i64 0, .nilFunc]) (cs := [.int .i64 1, .int .i64 (↑k22 : Int), .int .i64 (w64 (x49.To + 1)), .int .i64 x49.From, (.func (.func fid92) (List.toArray fst93) (List.toArray cap94))]) rfl (mapcons2 rfl (mapcons2 rfl (mapcons2 rfl (mapcons2 rfl mapnil2)))) Try.zeroValue134 places134 rfl rfl) ?_
  refine OKS.buildSlice (pv := [(0, .agg #[.int .i64 0, .int .i64 (↑k22 : Int), .int .i64 x49.From, .int .i64 (w64 (x49.To + 1)), (.func (.func fid77) (List.toArray fst78) (List.toArray cap79))]), (1, .agg #[.int .i64 1, .int .i64 (↑k22 : Int), .int .i64 (w64 (x49.To + 1)), .int .i64 x49.From, (.func (.func fid92) (List.toArray fst93) (List.toArray cap94))])]) (zs := [.int .i64 0, .int .i64 0, .int .i64 0, .int .i64 0, .nilFunc, .int .i64 0, .int .i64 0, .int .i64 0, .int .i64 0, .nilFunc]) (cs := [.int .i64 0, .int .i64 (↑k22 : Int), .int .i64 x49.From, .int .i64 (w64 (x49.To + 1)), (.func (.func fid77) (List.toArray fst78) (List.toArray cap79)), .int .i64 1, .int .i64 (↑k22 : Int), .int .i64 (w64 (x49.To + 1)), .int .i64 x49.From, (.func (.func fid92) (List.toArray fst93) (List.toArray cap94))]) rfl rfl rfl rfl rfl (mapcons2 rfl (mapcons2 rfl mapnil2)) Try.runUnderlying127 Try.sizeOf134 Try.zeroValue134 rfl rfl rfl rfl rfl hS91 ?_
  intro W96 b97 hS98
  have h100 := h75.le le88
  have hr101 : RlL φ84 rl134 [(⟨(⟨0, (↑k22 : Int)⟩ : T_target_Step), x49.From, w64 (x49.To + 1), x66⟩ : T_target_link), (⟨(⟨1, (↑k22 : Int)⟩ : T_target_Step), w64 (x49.To + 1), x49.From, x81⟩ : T_target_link)] [.int .i64 0, .int .i64 (↑k22 : Int), .int .i64 x49.From, .int .i64 (w64 (x49.To + 1)), (.func (.func fid77) (List.toArray fst78) (List.toArray cap79)), .int .i64 1, .int .i64 (↑k22 : Int), .int .i64 (w64 (x49.To + 1)), .int .i64 x49.From, (.func (.func fid92) (List.toArray fst93) (List.toArray cap94))] := (RlL.cons (R := rl134) (x := (⟨(⟨0, (↑k22 : Int)⟩ : T_target_Step), x49.From, w64 (x49.To + 1), x66⟩ : T_target_link)) (vs := [.int .i64 0, .int .i64 (↑k22 : Int), .int .i64 x49.From, .int .i64 (w64 (x49.To + 1)), (.func (.func fid77) (List.toArray fst78) (List.toArray cap79))]) ⟨(.func (.func fid77) (List.toArray fst78) (List.toArray cap79)), rfl, h100⟩ (RlL.cons (R := rl134) (x := (⟨(⟨1, (↑k22 : Int)⟩ : T_target_Step), w64 (x49.To + 1), x49.From, x81⟩ : T_target_link)) (vs := [.int .i64 1, .int .i64 (↑k22 : Int), .int .i64 (w64 (x49.To + 1)), .int .i64 x49.From, (.func (.func fid92) (List.toArray fst93) (List.toArray cap94))]) ⟨(.func (.func fid92) (List.toArray fst93) (List.toArray cap94)), rfl, h90⟩ RlL.nil))
  have hS102 : St ⟨w, [], φ⟩ φ84 [.row (some ⟨b97, 0, none⟩) 2 134 5 [.int .i64 0, .int .i64 (↑k22 : Int), .int .i64 x49.From, .int .i64 (w64 (x49.To + 1)), (.func (.func fid77) (List.toArray fst78) (List.toArray cap79)), .int .i64 1, .int .i64 (↑k22 : Int), .int .i64 (w64 (x49.To + 1)), .int .i64 x49.From, (.func (.func fid92) (List.toArray fst93) (List.toArray cap94))], .blk b58 31 [.int .i64 x49.From, .int .i64 x49.To, .int .i64 x49.Loops.Lo, .int .i64 x49.Loops.Hi], .row A18 c19 134 5 cs21] W96 := hS98
  have q := bnd hm83
  obtain ⟨x103, h104, hm105⟩ := q
  have h112 := h46.le le73
  have h113 := h112.le le88
  refine OKS.appendR (R := rl134) (j := 2) (xs := l17) (ys := [(⟨(⟨0, (↑k22 : Int)⟩ : T_target_Step), x49.From, w64 (x49.To + 1), x66⟩ : T_target_link), (⟨(⟨1, (↑k22 : Int)⟩ : T_target_Step), w64 (x49.To + 1), x49.From, x81⟩ : T_target_link)]) (zs := x103) rfl rfl rfl rfl rfl Try.underlying127 info134 rfl rfl rfl rfl rfl rfl rfl hS102 rfl rfl rfl h113 hr101 (hS102.srcR (j := 0) rfl (by decide) (RlL.len hr101)) h104 rfl ?_
  intro A106 c107 cs108 W109 hS110 hr111
  have hS114 : St ⟨w, [], φ⟩ φ84 [.row (some ⟨b97, 0, none⟩) 2 134 5 [.int .i64 0, .int .i64 (↑k22 : Int), .int .i64 x49.From, .int .i64 (w64 (x49.To + 1)), (.func (.func fid77) (List.toArray fst78) (List.toArray cap79)), .int .i64 1, .int .i64 (↑k22 : Int), .int .i64 (w64 (x49.To + 1)), .int .i64 x49.From, (.func (.func fid92) (List.toArray fst93) (List.toArray cap94))], .blk b58 31 [.int .i64 x49.From, .int .i64 x49.To, .int .i64 x49.Loops.Lo, .int .i64 x49.Loops.Hi], .row A106 c107 134 5 cs108] W109 := hS110
  refine OKS.ra rfl rfl rfl rfl rfl rfl ?_
  refine OKS.e ?_
  refine blockQ_n ?_
  refine thenQ_n ?_
  refine CK.reg (ks := []) (.fl 0 (.fl 1 (.nil))) rfl ?_
  refine OKS.r rfl rfl rfl rfl (fun _ => Runs.to (Runs.addw rfl fi36 rfl) (congrArg (Value.int .i64) hi48.out)) ?_
  refine OKS.rm rfl rfl rfl rfl rfl rfl ?_
  refine OKS.e ?_
  cases hm105
  exact thenQ_n ⟨rfl, ⟨φ84, A106, c107, cs108, rfl, f40, f41, f42, rfl, f44, f45, ((le38.trans le73).trans le88), (hS114.pick [2] _ (by decide) rfl), hr111⟩⟩
 ·rintro σ119 W120 ⟨φ130, A127, c128, c129, fi122, f133, f134, f135, f136, f137, f138, le131, hS132, h139⟩
  have c140 : Hid (¬ ((↑(((↑p1.length : Int) : Int) - 0).toNat : Int) < (↑p1.length : Int))) := Hid.mk (lp_end0)
  refine CK.seq ?_
  refine CK.reg (ks := []) (.fl 0 (.nil)) rfl ?_
  refine OKS.r rfl rfl rfl rfl (fun _ => Runs.lss rfl fi122 f138) ?_
  refine OKS.e ?_
  refine thenQ_n ?_
  refine CK.seq ?_
  refine CK.condF (decF c140.out) ?_
  refine CK.exit ?_
  refine thenQ_e ?_
  refine thenQ_e ?_
  refine blockQ_h ?_
  refine thenQ_n ?_
  refine CK.seq ?_
  refine CK.seq ?_
  refine CK.reg (ks := []) (.fl 0 (.fl 1 (.nil))) rfl ?_
  refine OKS.rm rfl rfl rfl rfl rfl f133 ?_
  refine OKS.rm rfl rfl rfl rfl rfl rfl ?_
  refine OKS.e ?_
  refine thenQ_n ?_
  refine CK.block ?_
  have q := bnd hm23
  obtain ⟨y164, hf161, hm160⟩ := q
  have q := forR'_le hf161
  obtain ⟨hle162, hf163⟩ := q
  replace hle162 := Hid.mk hle162
  refine CK.forN' (fun k159 l155 σ_ w_ => ∃ (φ_ : PHeap) (A156 : Option Addr) (c157 : Nat) (cs158 : List Value), σ_ 53 = .int .i64 (↑k159 : Int) ∧ σ_ 2 = .slice pA2 p2.length pc2 ∧ σ_ 7 = .func (.func 110) #[] #[] ∧ σ_ 8 = .slice A156 l155.length c157 ∧ σ_ 52 = .int .i64 p0 ∧ PHeap.Le φ130 φ_ ∧ St ⟨w, [], φ⟩ φ_ [.row A156 c157 134 5 cs158] w_ ∧ RlL φ_ rl134 l155 cs158) hf163 ?_ ?_ ?_
  ·exact ⟨φ130, A127, c128, c129, rfl, f134, f135, f136, rfl, (PHeap.Le.refl _), hS132, h139⟩
  ·rintro k159 l155 xx167 σ165 W166 hk170 ⟨φ172, A156, c157, cs158, fi171, f175, f176, f177, f178, le173, hS174, h179⟩ hx168
   have c180 : Hid ((↑k159 : Int) < p0) := Hid.mk (lp_lt0 hk170)
   replace hk170 := Hid.mk hk170
   have hi181 : Hid (w64 ((↑k159 : Int) + 1) = (↑(k159 + 1) : Int)) := Hid.mk (by have h1 := hle162.out; have h2 := c180.out; rw [w64_in] <;> omega)
   refine CK.seq ?_
   refine CK.reg (ks := []) (.fl 0 (.nil)) rfl ?_
   refine OKS.r rfl rfl rfl rfl (fun _ => Runs.lss rfl fi171 f178) ?_
   refine OKS.e ?_
   refine thenQ_n ?_
   refine CK.seq ?_
   refine CK.condT (decT c180.out) ?_
   refine CK.skip ?_
   refine thenQ_n ?_
   refine CK.seq ?_
   refine CK.block ?_
   refine CK.seq ?_
   refine CK.reg (ks := []) (.fl 0 (.fl 1 (.nil))) rfl ?_
   refine OKS.rm rfl rfl rfl rfl rfl fi171 ?_
   refine OKS.ra rfl rfl rfl rfl rfl rfl ?_
   refine OKS.e ?_
   refine thenQ_n ?_
   refine CK.reg (ks := []) (.fl 0 (.fl 1 (.fl 2 (.fl 3 (.fl 4 (.fl 5 (.fl 6 (.fx 7 (.fl 8 (.fl 9 (.fl 10 (.fl 11 (.fl 12 (.fl 13 (.fl 14 (.fx 15 (.fl 16 (.fx 17 (.fx 18 (.fl 19 (.nil)) .stop) .stop)) .stop)))))))) .stop)))))))) rfl ?_
   refine OKS.rm rfl rfl rfl rfl rfl f177 ?_
   refine OKS.rm rfl rfl rfl rfl rfl rfl ?_
   refine OKS.r rfl rfl rfl rfl (fun _ => Runs.build (pv := [(0, .int .i64 2), (1, .int .i64 (↑k159 : Int))]) (z := [.int .i64 0, .int .i64 0]) (cs := [.int .i64 2, .int .i64 (↑k159 : Int)]) rfl (mapcons2 rfl (mapcons2 rfl mapnil2)) Try.zeroValue35 places35 rfl rfl) ?_
   refine OKS.rm rfl rfl rfl rfl rfl rfl ?_
   refine OKS.rm rfl rfl rfl rfl rfl rfl ?_
   refine OKS.r rfl rfl rfl rfl (fun _ => Runs.to (Runs.addw rfl rfl rfl) (congrArg (Value.int .i64) hi181.out)) ?_
   refine OKS.rm rfl rfl rfl rfl rfl f176 ?_
   have q := bnd hx168
   obtain ⟨x182, h183, hm184⟩ := q
   refine OKS.callH 0 rfl rfl rfl rfl (Enters.mk rfl rfl Try.call110 (mapcons rfl mapnil) rfl) hS174 (fun hs => w_target_links_1 9 W166 φ172 hs h183) (.inr rfl) ?_
   rintro φ185 L186 v187 W188 le189 hS190 ⟨_, rfl, h191⟩
   have hS192 : St ⟨w, [], φ⟩ φ185 [.row A156 c157 134 5 cs158] W188 := hS190
   have q := id h191
   obtain ⟨fid193, fst194, cap195, he196, _⟩ := q
   subst he196
   refine OKS.r rfl rfl rfl rfl (fun _ => Runs.build (pv := [(0, .agg #[.int .i64 2, .int .i64 (↑k159 : Int)]), (1, .int .i64 (↑k159 : Int)), (2, .int .i64 (↑(k159 + 1) : Int)), (3, (.func (.func fid193) (List.toArray fst194) (List.toArray cap195)))]) (z := [.int .i64 0, .int .i64 0, .int .i64 0, .int .i64 0, .nilFunc]) (cs := [.int .i64 2, .int .i64 (↑k159 : Int), .int .i64 (↑k159 : Int), .int .i64 (↑(k159 + 1) : Int), (.func (.func fid193) (List.toArray fst194) (List.toArray cap195))]) rfl (mapcons2 rfl (mapcons2 rfl (mapcons2 rfl (mapcons2 rfl mapnil2)))) Try.zeroValue134 places134 rfl rfl) ?_
   refine OKS.rm rfl rfl rfl rfl rfl rfl ?_
   refine OKS.r rfl rfl rfl rfl (fun _ => Runs.build (pv := [(0, .int .i64 3), (1, .int .i64 (↑k159 : Int))]) (z := [.int .i64 0, .int .i64 0]) (cs := [.int .i64 3, .int .i64 (↑k159 : Int)]) rfl (mapcons2 rfl (mapcons2 rfl mapnil2)) Try.zeroValue35 places35 rfl rfl) ?_
   refine OKS.rm rfl rfl rfl rfl rfl rfl ?_
   refine OKS.r rfl rfl rfl rfl (fun _ => Runs.to (Runs.addw rfl rfl rfl) (congrArg (Value.int .i64) hi181.out)) ?_
   refine OKS.rm rfl rfl rfl rfl rfl rfl ?_
   refine OKS.rm rfl rfl rfl rfl rfl f176 ?_
   have q := bnd hm184
   obtain ⟨x197, h198, hm199⟩ := q
   refine OKS.callH 0 rfl rfl rfl rfl (Enters.mk rfl rfl Try.call110 (mapcons rfl mapnil) rfl) hS192 (fun hs => w_target_links_1 0 W188 φ185 hs h198) (.inr rfl) ?_
   rintro φ200 L201 v202 W203 le204 hS205 ⟨_, rfl, h206⟩
   have hS207 : St ⟨w, [], φ⟩ φ200 [.row A156 c157 134 5 cs158] W203 := hS205
   have q := id h206
   obtain ⟨fid208, fst209, cap210, he211, _⟩ := q
   subst he211
   refine OKS.r rfl rfl rfl rfl (fun _ => Runs.build (pv := [(0, .agg #[.int .i64 3, .int .i64 (↑k159 : Int)]), (1, .int .i64 (↑(k159 + 1) : Int)), (2, .int .i64 (↑k159 : Int)), (3, (.func (.func fid208) (List.toArray fst209) (List.toArray cap210)))]) (z := [.int .i64 0, .int .i64 0, .int .i64 0, .int .i64 0, .nilFunc]) (cs := [.int .i64 3, .int .i64 (↑k159 : Int), .int .i64 (↑(k159 + 1) : Int), .int .i64 (↑k159 : Int), (.func (.func fid208) (List.toArray fst209) (List.toArray cap210))]) rfl (mapcons2 rfl (mapcons2 rfl (mapcons2 rfl (mapcons2 rfl mapnil2)))) Try.zeroValue134 places134 rfl rfl) ?_
   refine OKS.buildSlice (pv := [(0, .agg #[.int .i64 2, .int .i64 (↑k159 : Int), .int .i64 (↑k159 : Int), .int .i64 (↑(k159 + 1) : Int), (.func (.func fid193) (List.toArray fst194) (List.toArray cap195))]), (1, .agg #[.int .i64 3, .int .i64 (↑k159 : Int), .int .i64 (↑(k159 + 1) : Int), .int .i64 (↑k159 : Int), (.func (.func fid208) (List.toArray fst209) (List.toArray cap210))])]) (zs := [.int .i64 0, .int .i64 0, .int .i64 0, .int .i64 0, .nilFunc, .int .i64 0, .int .i64 0, .int .i64 0, .int .i64 0, .nilFunc]) (cs := [.int .i64 2, .int .i64 (↑k159 : Int), .int .i64 (↑k159 : Int), .int .i64 (↑(k159 + 1) : Int), (.func (.func fid193) (List.toArray fst194) (List.toArray cap195)), .int .i64 3, .int .i64 (↑k159 : Int), .int .i64 (↑(k159 + 1) : Int), .int .i64 (↑k159 : Int), (.func (.func fid208) (List.toArray fst209) (List.toArray cap210))]) rfl rfl rfl rfl rfl (mapcons2 rfl (mapcons2 rfl mapnil2)) Try.runUnderlying127 Try.sizeOf134 Try.zeroValue134 rfl rfl rfl rfl rfl hS207 ?_
   intro W212 b213 hS214
   have h216 := h191.le le204
   have hr217 : RlL φ200 rl134 [(⟨(⟨2, (↑k159 : Int)⟩ : T_target_Step), (↑k159 : Int), (↑(k159 + 1) : Int), x182⟩ : T_target_link), (⟨(⟨3, (↑k159 : Int)⟩ : T_target_Step), (↑(k159 + 1) : Int), (↑k159 : Int), x197⟩ : T_target_link)] [.int .i64 2, .int .i64 (↑k159 : Int), .int .i64 (↑k159 : Int), .int .i64 (↑(k159 + 1) : Int), (.func (.func fid193) (List.toArray fst194) (List.toArray cap195)), .int .i64 3, .int .i64 (↑k159 : Int), .int .i64 (↑(k159 + 1) : Int), .int .i64 (↑k159 : Int), (.func (.func fid208) (List.toArray fst209) (List.toArray cap210))] := (RlL.cons (R := rl134) (x := (⟨(⟨2, (↑k159 : Int)⟩ : T_target_Step), (↑k159 : Int), (↑(k159 + 1) : Int), x182⟩ : T_target_link)) (vs := [.int .i64 2, .int .i64 (↑k159 : Int), .int .i64 (↑k159 : Int), .int .i64 (↑(k159 + 1) : Int), (.func (.func fid193) (List.toArray fst194) (List.toArray cap195))]) ⟨(.func (.func fid193) (List.toArray fst194) (List.toArray cap195)), rfl, h216⟩ (RlL.cons (R := rl134) (x := (⟨(⟨3, (↑k159 : Int)⟩ : T_target_Step), (↑(k159 + 1) : Int), (↑k159 : Int), x197⟩ : T_target_link)) (vs := [.int .i64 3, .int .i64 (↑k159 : Int), .int .i64 (↑(k159 + 1) : Int), .int .i64 (↑k159 : Int), (.func (.func fid208) (List.toArray fst209) (List.toArray cap210))]) ⟨(.func (.func fid208) (List.toArray fst209) (List.toArray cap210)), rfl, h206⟩ RlL.nil))
   have hS218 : St ⟨w, [], φ⟩ φ200 [.row (some ⟨b213, 0, none⟩) 2 134 5 [.int .i64 2, .int .i64 (↑k159 : Int), .int .i64 (↑k159 : Int), .int .i64 (↑(k159 + 1) : Int), (.func (.func fid193) (List.toArray fst194) (List.toArray cap195)), .int .i64 3, .int .i64 (↑k159 : Int), .int .i64 (↑(k159 + 1) : Int), .int .i64 (↑k159 : Int), (.func (.func fid208) (List.toArray fst209) (List.toArray cap210))], .row A156 c157 134 5 cs158] W212 := hS214
   have q := bnd hm199
   obtain ⟨x219, h220, hm221⟩ := q
   have h228 := h179.le le189
   have h229 := h228.le le204
   refine OKS.appendR (R := rl134) (j := 1) (xs := l155) (ys := [(⟨(⟨2, (↑k159 : Int)⟩ : T_target_Step), (↑k159 : Int), (↑(k159 + 1) : Int), x182⟩ : T_target_link), (⟨(⟨3, (↑k159 : Int)⟩ : T_target_Step), (↑(k159 + 1) : Int), (↑k159 : Int), x197⟩ : T_target_link)]) (zs := x219) rfl rfl rfl rfl rfl Try.underlying127 info134 rfl rfl rfl rfl rfl rfl rfl hS218 rfl rfl rfl h229 hr217 (hS218.srcR (j := 0) rfl (by decide) (RlL.len hr217)) h220 rfl ?_
   intro A222 c223 cs224 W225 hS226 hr227
   have hS230 : St ⟨w, [], φ⟩ φ200 [.row (some ⟨b213, 0, none⟩) 2 134 5 [.int .i64 2, .int .i64 (↑k159 : Int), .int .i64 (↑k159 : Int), .int .i64 (↑(k159 + 1) : Int), (.func (.func fid193) (List.toArray fst194) (List.toArray cap195)), .int .i64 3, .int .i64 (↑k159 : Int), .int .i64 (↑(k159 + 1) : Int), .int .i64 (↑k159 : Int), (.func (.func fid208) (List.toArray fst209) (List.toArray cap210))], .row A222 c223 134 5 cs224] W225 := hS226
   refine OKS.ra rfl rfl rfl rfl rfl rfl ?_
   refine OKS.e ?_
   refine blockQ_n ?_
   refine thenQ_n ?_
   refine CK.reg (ks := []) (.fl 0 (.fl 1 (.nil))) rfl ?_
   refine OKS.r rfl rfl rfl rfl (fun _ => Runs.to (Runs.addw rfl fi171 rfl) (congrArg (Value.int .i64) hi181.out)) ?_
   refine OKS.rm rfl rfl rfl rfl rfl rfl ?_
   refine OKS.e ?_
   cases hm221
   exact thenQ_n ⟨rfl, ⟨φ200, A222, c223, cs224, rfl, f175, f176, rfl, f178, ((le173.trans le189).trans le204), (hS230.pick [1] _ (by decide) rfl), hr227⟩⟩
  ·rintro σ235 W236 ⟨φ246, A243, c244, c245, fi238, f249, f250, f251, f252, le247, hS248, h253⟩
   have c254 : Hid (¬ ((↑((p0 : Int) - 0).toNat : Int) < p0)) := Hid.mk (lp_end0)
   refine CK.seq ?_
   refine CK.reg (ks := []) (.fl 0 (.nil)) rfl ?_
   refine OKS.r rfl rfl rfl rfl (fun _ => Runs.lss rfl fi238 f252) ?_
   refine OKS.e ?_
   refine thenQ_n ?_
   refine CK.seq ?_
   refine CK.condF (decF c254.out) ?_
   refine CK.exit ?_
   refine thenQ_e ?_
   refine thenQ_e ?_
   refine blockQ_h ?_
   refine thenQ_n ?_
   refine CK.seq ?_
   refine CK.seq ?_
   refine CK.reg (ks := []) (.fl 0 (.fl 1 (.fl 2 (.nil)))) rfl ?_
   refine OKS.rm rfl rfl rfl rfl rfl f249 ?_
   refine OKS.r rfl rfl rfl rfl (fun _ => Runs.len rfl rfl Try.runUnderlying22) ?_
   refine OKS.rm rfl rfl rfl rfl rfl rfl ?_
   refine OKS.e ?_
   refine thenQ_n ?_
   refine CK.block ?_
   have q := bnd hm160
   obtain ⟨y278, hf275, hm274⟩ := q
   have q := forR'_le hf275
   obtain ⟨hle276, hf277⟩ := q
   replace hle276 := Hid.mk hle276
   refine CK.forN' (fun k273 l269 σ_ w_ => ∃ (φ_ : PHeap) (A270 : Option Addr) (c271 : Nat) (cs272 : List Value), σ_ 78 = .int .i64 (↑k273 : Int) ∧ σ_ 7 = .func (.func 110) #[] #[] ∧ σ_ 8 = .slice A270 l269.length c271 ∧ σ_ 76 = .slice pA2 p2.length pc2 ∧ σ_ 77 = .int .i64 (↑p2.length : Int) ∧ PHeap.Le φ246 φ_ ∧ St ⟨w, [], φ⟩ φ_ [.row A270 c271 134 5 cs272] w_ ∧ RlL φ_ rl134 l269 cs272) hf277 ?_ ?_ ?_
   ·exact ⟨φ246, A243, c244, c245, rfl, f250, f251, rfl, rfl, (PHeap.Le.refl _), hS248, h253⟩
   ·rintro k273 l269 xx281 σ279 W280 hk284 ⟨φ286, A270, c271, cs272, fi285, f289, f290, f291, f292, le287, hS288, h293⟩ hx282
    have c294 : Hid ((↑k273 : Int) < (↑p2.length : Int)) := Hid.mk (lp_lt0 hk284)
    replace hk284 := Hid.mk hk284
    have hi295 : Hid (w64 ((↑k273 : Int) + 1) = (↑(k273 + 1) : Int)) := Hid.mk (by have h1 := hle276.out; have h2 := c294.out; rw [w64_in] <;> omega)
    refine CK.seq ?_
    refine CK.reg (ks := []) (.fl 0 (.nil)) rfl ?_
    refine OKS.r rfl rfl rfl rfl (fun _ => Runs.lss rfl fi285 f292) ?_
    refine OKS.e ?_
    refine thenQ_n ?_
    refine CK.seq ?_
    refine CK.condT (decT c294.out) ?_
    refine CK.skip ?_
    refine thenQ_n ?_
    refine CK.seq ?_
    refine CK.block ?_
    refine CK.seq ?_
    refine CK.reg (ks := []) (.fl 0 (.fl 1 (.fl 2 (.fl 3 (.fl 4 (.nil)))))) rfl ?_
    refine OKS.rm rfl rfl rfl rfl rfl fi285 ?_
    have q := bnd hx282
    obtain ⟨x296, h297, hm298⟩ := q
    have h299 := ha1.le le131
    have h300 := h299.le le247
    have h301 := h300.le le287
    have q := h301.el (fun _ => rfl) (idx_get h297)
    obtain ⟨b302, off303, hA304, hC305⟩ := q
    refine OKS.r rfl rfl rfl rfl (fun _ => Runs.iaN rfl f291 hA304 fi285 Try.runUnderlying22 Try.sizeOf3 (idx_lt h297)) ?_
    refine OKS.m rfl rfl rfl rfl (hS288.ldC (f := 0) hC305 (v := .int .i64 x296) rfl rfl Try.isAgg3 rfl) rfl ?_
    refine OKS.ra rfl rfl rfl rfl rfl rfl ?_
    refine OKS.ra rfl rfl rfl rfl rfl rfl ?_
    refine OKS.e ?_
    refine thenQ_n ?_
    refine CK.reg (ks := []) (.fl 0 (.fl 1 (.fl 2 (.fl 3 (.fl 4 (.fl 5 (.fl 6 (.fl 7 (.fl 8 (.fx 9 (.fl 10 (.fx 11 (.fx 12 (.fl 13 (.nil)) .stop) .stop)) .stop)))))))))) rfl ?_
    refine OKS.rm rfl rfl rfl rfl rfl f290 ?_
    refine OKS.rm rfl rfl rfl rfl rfl rfl ?_
    refine OKS.r rfl rfl rfl rfl (fun _ => Runs.build (pv := [(0, .int .i64 4), (1, .int .i64 (↑k273 : Int))]) (z := [.int .i64 0, .int .i64 0]) (cs := [.int .i64 4, .int .i64 (↑k273 : Int)]) rfl (mapcons2 rfl (mapcons2 rfl mapnil2)) Try.zeroValue35 places35 rfl rfl) ?_
    refine OKS.rm rfl rfl rfl rfl rfl rfl ?_
    refine OKS.r rfl rfl rfl rfl (fun _ => Runs.to (Runs.addw rfl rfl rfl) (congrArg (Value.int .i64) hi295.out)) ?_
    refine OKS.rm rfl rfl rfl rfl rfl rfl ?_
    refine OKS.rm rfl rfl rfl rfl rfl f289 ?_
    refine OKS.rm rfl rfl rfl rfl rfl rfl ?_
    refine OKS.r rfl rfl rfl rfl (fun _ => Runs.negw rfl rfl) ?_
    have q := bnd hm298
    obtain ⟨x306, h307, hm308⟩ := q
    refine OKS.callH 0 rfl rfl rfl rfl (Enters.mk rfl rfl Try.call110 (mapcons rfl mapnil) rfl) hS288 (fun hs => w_target_links_1 (w64 (-x296)) W280 φ286 hs h307) (.inr rfl) ?_
    rintro φ309 L310 v311 W312 le313 hS314 ⟨_, rfl, h315⟩
    have hS316 : St ⟨w, [], φ⟩ φ309 [.row A270 c271 134 5 cs272] W312 := hS314
    have q := id h315
    obtain ⟨fid317, fst318, cap319, he320, _⟩ := q
    subst he320
    refine OKS.r rfl rfl rfl rfl (fun _ => Runs.build (pv := [(0, .agg #[.int .i64 4, .int .i64 (↑k273 : Int)]), (1, .int .i64 (↑(k273 + 1) : Int)), (2, .int .i64 (↑k273 : Int)), (3, (.func (.func fid317) (List.toArray fst318) (List.toArray cap319)))]) (z := [.int .i64 0, .int .i64 0, .int .i64 0, .int .i64 0, .nilFunc]) (cs := [.int .i64 4, .int .i64 (↑k273 : Int), .int .i64 (↑(k273 + 1) : Int), .int .i64 (↑k273 : Int), (.func (.func fid317) (List.toArray fst318) (List.toArray cap319))]) rfl (mapcons2 rfl (mapcons2 rfl (mapcons2 rfl (mapcons2 rfl mapnil2)))) Try.zeroValue134 places134 rfl rfl) ?_
    refine OKS.buildSlice (pv := [(0, .agg #[.int .i64 4, .int .i64 (↑k273 : Int), .int .i64 (↑(k273 + 1) : Int), .int .i64 (↑k273 : Int), (.func (.func fid317) (List.toArray fst318) (List.toArray cap319))])]) (zs := [.int .i64 0, .int .i64 0, .int .i64 0, .int .i64 0, .nilFunc]) (cs := [.int .i64 4, .int .i64 (↑k273 : Int), .int .i64 (↑(k273 + 1) : Int), .int .i64 (↑k273 : Int), (.func (.func fid317) (List.toArray fst318) (List.toArray cap319))]) rfl rfl rfl rfl rfl (mapcons2 rfl mapnil2) Try.runUnderlying127 Try.sizeOf134 Try.zeroValue134 rfl rfl rfl rfl rfl hS316 ?_
    intro W321 b322 hS323
    have hr325 : RlL φ309 rl134 [(⟨(⟨4, (↑k273 : Int)⟩ : T_target_Step), (↑(k273 + 1) : Int), (↑k273 : Int), x306⟩ : T_target_link)] [.int .i64 4, .int .i64 (↑k273 : Int), .int .i64 (↑(k273 + 1) : Int), .int .i64 (↑k273 : Int), (.func (.func fid317) (List.toArray fst318) (List.toArray cap319))] := (RlL.cons (R := rl134) (x := (⟨(⟨4, (↑k273 : Int)⟩ : T_target_Step), (↑(k273 + 1) : Int), (↑k273 : Int), x306⟩ : T_target_link)) (vs := [.int .i64 4, .int .i64 (↑k273 : Int), .int .i64 (↑(k273 + 1) : Int), .int .i64 (↑k273 : Int), (.func (.func fid317) (List.toArray fst318) (List.toArray cap319))]) ⟨(.func (.func fid317) (List.toArray fst318) (List.toArray cap319)), rfl, h315⟩ RlL.nil)
    have hS326 : St ⟨w, [], φ⟩ φ309 [.row (some ⟨b322, 0, none⟩) 1 134 5 [.int .i64 4, .int .i64 (↑k273 : Int), .int .i64 (↑(k273 + 1) : Int), .int .i64 (↑k273 : Int), (.func (.func fid317) (List.toArray fst318) (List.toArray cap319))], .row A270 c271 134 5 cs272] W321 := hS323
    have q := bnd hm308
    obtain ⟨x327, h328, hm329⟩ := q
    have h336 := h293.le le313
    refine OKS.appendR (R := rl134) (j := 1) (xs := l269) (ys := [(⟨(⟨4, (↑k273 : Int)⟩ : T_target_Step), (↑(k273 + 1) : Int), (↑k273 : Int), x306⟩ : T_target_link)]) (zs := x327) rfl rfl rfl rfl rfl Try.underlying127 info134 rfl rfl rfl rfl rfl rfl rfl hS326 rfl rfl rfl h336 hr325 (hS326.srcR (j := 0) rfl (by decide) (RlL.len hr325)) h328 rfl ?_
    intro A330 c331 cs332 W333 hS334 hr335
    have hS337 : St ⟨w, [], φ⟩ φ309 [.row (some ⟨b322, 0, none⟩) 1 134 5 [.int .i64 4, .int .i64 (↑k273 : Int), .int .i64 (↑(k273 + 1) : Int), .int .i64 (↑k273 : Int), (.func (.func fid317) (List.toArray fst318) (List.toArray cap319))], .row A330 c331 134 5 cs332] W333 := hS334
    refine OKS.ra rfl rfl rfl rfl rfl rfl ?_
    refine OKS.e ?_
    refine blockQ_n ?_
    refine thenQ_n ?_
    refine CK.reg (ks := []) (.fl 0 (.fl 1 (.nil))) rfl ?_
    refine OKS.r rfl rfl rfl rfl (fun _ => Runs.to (Runs.addw rfl fi285 rfl) (congrArg (Value.int .i64) hi295.out)) ?_
    refine OKS.rm rfl rfl rfl rfl rfl rfl ?_
    refine OKS.e ?_
    cases hm329
    exact thenQ_n ⟨rfl, ⟨φ309, A330, c331, cs332, rfl, f289, rfl, f291, f292, (le287.trans le313), (hS337.pick [1] _ (by decide) rfl), hr335⟩⟩
   ·rintro σ342 W343 ⟨φ353, A350, c351, c352, fi345, f356, f357, f358, f359, le354, hS355, h360⟩
    have c361 : Hid (¬ ((↑(((↑p2.length : Int) : Int) - 0).toNat : Int) < (↑p2.length : Int))) := Hid.mk (lp_end0)
    refine CK.seq ?_
    refine CK.reg (ks := []) (.fl 0 (.nil)) rfl ?_
    refine OKS.r rfl rfl rfl rfl (fun _ => Runs.lss rfl fi345 f359) ?_
    refine OKS.e ?_
    refine thenQ_n ?_
    refine CK.seq ?_
    refine CK.condF (decF c361.out) ?_
    refine CK.exit ?_
    refine thenQ_e ?_
    refine thenQ_e ?_
    refine blockQ_h ?_
    refine thenQ_n ?_
    refine CK.seq ?_
    refine CK.reg (ks := []) (.fl 0 (.fl 1 (.nil))) rfl ?_
    refine OKS.rm rfl rfl rfl rfl rfl f357 ?_
    refine OKS.ra rfl rfl rfl rfl rfl rfl ?_
    refine OKS.e ?_
    refine thenQ_n ?_
    refine CK.ret ?_
    cases hm274
    exact ⟨rfl, _, (res1 rfl), φ353, _, hS355, A350, c351, c352, rfl, rfl, h360⟩
end Go.Proofs.Ytaoaelhmiggepaa
