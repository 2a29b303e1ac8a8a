/- Walks, printed by a program: each function does what its model says. -/
import Derived.Test.YtnllmignponhdaaEnc
import Derived.Test.YtnllmignponhdaaW0
namespace Go.Proofs.Ytnllmignponhdaa
open Go.KL
set_option maxHeartbeats 4000000 in
theorem w_slices_ContainsFunc_target_Sheet_target_Sheet (p0 : List T_target_Sheet) (pA0 : Option Addr) (pc0 : Nat) (p1 : (T_target_Sheet → Option Bool)) (pv1 : Value) (w : World) (φ : PHeap) (hS : St ⟨w, [], φ⟩ φ [] w) (ha0 : Sl φ 4 pA0 pc0 p0.length (List.flatMap encT_target_Sheet p0)) (ha1 : FnOK Try.prog φ pv1 ar151 rr151 p1) {r : Bool} (hm : m_slices_ContainsFunc_target_Sheet_target_Sheet p0 p1 = some r) : Gv Try.prog 128 [.slice pA0 p0.length pc0, pv1] w (RetS w [] φ (fun φ_ L_ v => v = .bool r ∧ L_ = [])) := by
  unfold m_slices_ContainsFunc_target_Sheet_target_Sheet at hm
  refine Gv.of Try.func128 rfl Try.ntmps128 Try.results128 rfl ?_
  refine CK.seq ?_
  refine CK.reg (ks := []) (.fl 0 (.nil)) rfl ?_
  refine OKS.r rfl rfl rfl rfl (fun _ => Runs.as rfl rfl) ?_
  refine OKS.e ?_
  refine thenQ_n ?_
  refine CK.seq ?_
  refine CK.reg (ks := []) (.fl 0 (.fl 1 (.fx 2 (.fl 3 (.fl 4 (.nil))) .stop))) rfl ?_
  refine OKS.r rfl rfl rfl rfl (fun _ => Runs.mv rfl rfl) ?_
  refine OKS.r rfl rfl rfl rfl (fun _ => Runs.mv rfl rfl) ?_
  obtain ⟨x1, h2, hm3⟩ := bnd hm
  refine OKS.callH 0 rfl rfl rfl rfl (Enters.mk rfl rfl Try.call145 (mapcons rfl (mapcons rfl mapnil)) rfl) hS (fun hs => w_slices_IndexFunc_target_Sheet_target_Sheet p0 pA0 pc0 p1 pv1 w φ hs ha0 ha1 h2) (.inr rfl) ?_
  rintro φ4 L5 v6 W7 le8 hS9 ⟨rfl, rfl⟩
  have hS10 : St ⟨w, [], φ⟩ φ4 [] W7 := hS9
  refine OKS.r rfl rfl rfl rfl (fun _ => Runs.geq rfl rfl rfl) ?_
  refine OKS.r rfl rfl rfl rfl (fun _ => Runs.as rfl rfl) ?_
  refine OKS.e ?_
  refine thenQ_n ?_
  refine CK.ret ?_
  cases hm3
  exact ⟨rfl, _, (res1 rfl), φ4, _, hS10, rfl, rfl⟩

set_option maxHeartbeats 4000000 in
theorem w_target_all_target_Sheet (p0 : List T_target_Sheet) (pA0 : Option Addr) (pc0 : Nat) (p1 : (T_target_Sheet → Option Bool)) (pv1 : Value) (w : World) (φ : PHeap) (hS : St ⟨w, [], φ⟩ φ [] w) (ha0 : Sl φ 4 pA0 pc0 p0.length (List.flatMap encT_target_Sheet p0)) (ha1 : FnOK Try.prog φ pv1 ar151 rr151 p1) {r : Bool} (hm : m_target_all_target_Sheet p0 p1 = some r) : Gv Try.prog 83 [.slice pA0 p0.length pc0, pv1] w (RetS w [] φ (fun φ_ L_ v => v = .bool r ∧ L_ = [])) := by
  unfold m_target_all_target_Sheet at hm
  refine Gv.of Try.func83 rfl Try.ntmps83 Try.results83 rfl ?_
  refine CK.seq ?_
  refine CK.reg (ks := []) (.fx 0 (.fl 1 (.nil)) .stop) rfl ?_
  refine OKS.box (cs := [pv1]) rfl rfl rfl rfl rfl rfl (FnOK.cells ha1) hS ?_
  intro W1 b2 hS3
  obtain ⟨φ5, le6, hC7, hS8⟩ := hS3.freeze (k := 0) rfl
  replace hC7 := Cl.of hC7
  have hS9 : St ⟨w, [], φ⟩ φ5 [] W1 := hS8
  replace hC7 : Cl φ5 b2 0 [pv1] := hC7
  refine OKS.r rfl rfl rfl rfl (fun _ => Runs.as rfl rfl) ?_
  refine OKS.e ?_
  refine thenQ_n ?_
  refine CK.seq ?_
  refine CK.reg (ks := []) (.fl 0 (.fl 1 (.fx 2 (.fl 3 (.fl 4 (.nil))) .stop))) rfl ?_
  refine OKS.r rfl rfl rfl rfl (fun _ => Runs.mv rfl rfl) ?_
  refine OKS.r rfl rfl rfl rfl (fun _ => Runs.mkf rfl mapnil (mapcons rfl mapnil)) ?_
  have h10 := ha0.le le6
  have h11 := ha1.le le6
  have hF12 : FnOK Try.prog φ5 (.func (.func 129) #[] #[.pointer (some ⟨b2, 0, none⟩)]) ar151 rr151 (fun x => m_target_all_target_Sheet_1 x p1) := ⟨129, [], [.pointer (some ⟨b2, 0, none⟩)], rfl, Try.call129, fun φ1 w1 x y vs le hs ha hm => by obtain rfl := ha; exact w_target_all_target_Sheet_1 x p1 b2 pv1 w1 φ1 hs (hC7.le le) (h11.le le) hm⟩
  obtain ⟨x13, h14, hm15⟩ := bnd hm
  refine OKS.callH 0 rfl rfl rfl rfl (Enters.mk rfl rfl Try.call128 (mapcons rfl (mapcons rfl mapnil)) rfl) hS9 (fun hs => w_slices_ContainsFunc_target_Sheet_target_Sheet p0 pA0 pc0 (fun x => m_target_all_target_Sheet_1 x p1) (.func (.func 129) #[] #[.pointer (some ⟨b2, 0, none⟩)]) W1 φ5 hs h10 hF12 h14) (.inr rfl) ?_
  rintro φ16 L17 v18 W19 le20 hS21 ⟨rfl, rfl⟩
  have hS22 : St ⟨w, [], φ⟩ φ16 [] W19 := hS21
  refine OKS.r rfl rfl rfl rfl (fun _ => Runs.notT rfl rfl) ?_
  refine OKS.r rfl rfl rfl rfl (fun _ => Runs.as rfl rfl) ?_
  refine OKS.e ?_
  refine thenQ_n ?_
  refine CK.ret ?_
  cases hm15
  exact ⟨rfl, _, (res1 rfl), φ16, _, hS22, rfl, rfl⟩

set_option maxHeartbeats 4000000 in
theorem w_target_CheckSheets_2 (p0 : T_target_Sheet) (w : World) (φ : PHeap) (hS : St ⟨w, [], φ⟩ φ [] w)  {r : Bool} (hm : m_target_CheckSheets_2 p0 = some r) : Gv Try.prog 85 [.agg #[.int .i64 p0.From, .int .i64 p0.To, .int .i64 p0.Loops.Lo, .int .i64 p0.Loops.Hi]] w (RetS w [] φ (fun φ_ L_ v => v = .bool r ∧ L_ = [])) := by
  unfold m_target_CheckSheets_2 at hm
  refine Gv.of Try.func85 rfl Try.ntmps85 Try.results85 rfl ?_
  refine CK.seq ?_
  refine CK.reg (ks := []) (.fx 0 (.fl 1 (.nil)) .stop) rfl ?_
  refine OKS.box (cs := [.int .i64 p0.From, .int .i64 p0.To, .int .i64 p0.Loops.Lo, .int .i64 p0.Loops.Hi]) rfl rfl rfl rfl rfl rfl (by rfl) hS ?_
  intro W1 b2 hS3
  refine OKS.r rfl rfl rfl rfl (fun _ => Runs.as rfl rfl) ?_
  refine OKS.e ?_
  refine thenQ_n ?_
  refine CK.seq ?_
  refine CK.reg (ks := []) (.fl 0 (.fl 1 (.fl 2 (.fl 3 (.fl 4 (.fl 5 (.fx 6 (.fl 7 (.fl 8 (.fl 9 (.fl 10 (.fl 11 (.fl 12 (.fl 13 (.nil)))))))) .stop))))))) rfl ?_
  refine OKS.r rfl rfl rfl rfl (fun _ => Runs.fa rfl rfl Try.runUnderlying33 rfl Try.sizeOf31) ?_
  refine OKS.r rfl rfl rfl rfl (fun _ => Runs.fa rfl rfl Try.runUnderlying31 rfl Try.sizeOf3) ?_
  refine OKS.m rfl rfl rfl rfl (hS3.ldB (j := 0) rfl rfl rfl Try.isAgg3 (v := .int .i64 p0.Loops.Lo) rfl) rfl ?_
  refine OKS.r rfl rfl rfl rfl (fun _ => Runs.fa rfl rfl Try.runUnderlying33 rfl Try.sizeOf31) ?_
  refine OKS.r rfl rfl rfl rfl (fun _ => Runs.fa rfl rfl Try.runUnderlying31 rfl Try.sizeOf3) ?_
  refine OKS.m rfl rfl rfl rfl (hS3.ldB (j := 0) rfl rfl rfl Try.isAgg3 (v := .int .i64 p0.Loops.Hi) rfl) rfl ?_
  obtain ⟨x5, h6, hm7⟩ := bnd hm
  refine OKS.callH 0 rfl rfl rfl rfl (Enters.mk rfl rfl Try.call82 (mapcons rfl (mapcons rfl (mapcons rfl mapnil))) rfl) hS3 (fun hs => w_target_within p0.Loops.Lo 0 p0.Loops.Hi W1 φ hs h6) (.inr rfl) ?_
  rintro φ8 L9 v10 W11 le12 hS13 ⟨rfl, rfl⟩
  have hS14 : St ⟨w, [], φ⟩ φ8 [.blk b2 33 [.int .i64 p0.From, .int .i64 p0.To, .int .i64 p0.Loops.Lo, .int .i64 p0.Loops.Hi]] W11 := hS13
  refine OKS.r rfl rfl rfl rfl (fun _ => Runs.mv rfl rfl) ?_
  by_cases c15 : x5 = true
  · have hm16 := hm7; rw [if_pos c15] at hm16; replace c15 := Hid.mk c15
    refine OKS.r rfl rfl rfl (wantedY rfl rfl (congrArg Value.bool c15.out)) (fun _ => Runs.fa rfl rfl Try.runUnderlying33 rfl Try.sizeOf31) ?_
    refine OKS.r rfl rfl rfl (wantedY rfl rfl (congrArg Value.bool c15.out)) (fun _ => Runs.fa rfl rfl Try.runUnderlying31 rfl Try.sizeOf3) ?_
    refine OKS.m rfl rfl rfl (wantedY rfl rfl (congrArg Value.bool c15.out)) (hS14.ldB (j := 0) rfl rfl rfl Try.isAgg3 (v := .int .i64 p0.Loops.Hi) rfl) rfl ?_
    refine OKS.r rfl rfl rfl (wantedY rfl rfl (congrArg Value.bool c15.out)) (fun _ => Runs.leq rfl rfl rfl) ?_
    refine OKS.r rfl rfl rfl rfl (fun _ => Runs.pickT rfl (congrArg Value.bool c15.out) rfl) ?_
    refine OKS.r rfl rfl rfl rfl (fun _ => Runs.as rfl rfl) ?_
    refine OKS.e ?_
    refine thenQ_n ?_
    refine CK.ret ?_
    cases hm16
    exact ⟨rfl, _, (res1 rfl), φ8, _, (hS14.pick [] _ (by decide) rfl), rfl, rfl⟩
  · have hm17 := hm7; rw [if_neg c15] at hm17; replace c15 := Hid.mk c15
    refine OKS.p rfl rfl rfl (wantedN rfl rfl (congrArg Value.bool (Bool.eq_false_iff.2 c15.out)) rfl) ?_
    refine OKS.p rfl rfl rfl (wantedN rfl rfl (congrArg Value.bool (Bool.eq_false_iff.2 c15.out)) rfl) ?_
    refine OKS.p rfl rfl rfl (wantedN rfl rfl (congrArg Value.bool (Bool.eq_false_iff.2 c15.out)) rfl) ?_
    refine OKS.p rfl rfl rfl (wantedN rfl rfl (congrArg Value.bool (Bool.eq_false_iff.2 c15.out)) rfl) ?_
    refine OKS.r rfl rfl rfl rfl (fun _ => Runs.pickF rfl (congrArg Value.bool (Bool.eq_false_iff.2 c15.out)) rfl) ?_
    refine OKS.r rfl rfl rfl rfl (fun _ => Runs.as rfl rfl) ?_
    refine OKS.e ?_
    refine thenQ_n ?_
    refine CK.ret ?_
    cases hm17
    exact ⟨rfl, _, (res1 rfl), φ8, _, (hS14.pick [] _ (by decide) rfl), rfl, rfl⟩

set_option maxHeartbeats 4000000 in
theorem w_target_CheckSheets (p0 : Int) (p1 : List T_target_Sheet) (pA1 : Option Addr) (pc1 : Nat) (w : World) (φ : PHeap) (hS : St ⟨w, [], φ⟩ φ [] w) (ha0 : Sl φ 4 pA1 pc1 p1.length (List.flatMap encT_target_Sheet p1)) {r : Int} (hm : m_target_CheckSheets p0 p1 = some r) : Gv Try.prog 27 [.int .i64 p0, .slice pA1 p1.length pc1] w (RetS w [] φ (fun φ_ L_ v => v = .int .i64 r ∧ L_ = [])) := by
  unfold m_target_CheckSheets at hm
  refine Gv.of Try.func27 rfl Try.ntmps27 Try.results27 rfl ?_
  refine CK.seq ?_
  refine CK.reg (ks := []) (.fx 0 (.fl 1 (.nil)) .stop) rfl ?_
  refine OKS.box (cs := [.int .i64 p0]) rfl rfl rfl rfl rfl rfl (by rfl) hS ?_
  intro W1 b2 hS3
  obtain ⟨φ5, le6, hC7, hS8⟩ := hS3.freeze (k := 0) rfl
  replace hC7 := Cl.of hC7
  have hS9 : St ⟨w, [], φ⟩ φ5 [] W1 := hS8
  replace hC7 : Cl φ5 b2 0 [.int .i64 p0] := hC7
  refine OKS.r rfl rfl rfl rfl (fun _ => Runs.as rfl rfl) ?_
  refine OKS.e ?_
  refine thenQ_n ?_
  refine CK.seq ?_
  refine CK.block ?_
  refine CK.seq ?_
  refine CK.reg (ks := []) (.fl 0 (.fx 1 (.fl 2 (.fl 3 (.fl 4 (.fl 5 (.fl 6 (.fl 7 (.fl 8 (.nil)))))))) .stop)) rfl ?_
  refine OKS.m rfl rfl rfl rfl (hS9.ldC (f := 0) hC7 (v := .int .i64 p0) rfl rfl Try.isAgg3 rfl) rfl ?_
  obtain ⟨x10, h11, hm12⟩ := bnd hm
  refine OKS.callH 0 rfl rfl rfl rfl (Enters.mk rfl rfl Try.call82 (mapcons rfl (mapcons rfl (mapcons rfl mapnil))) rfl) hS9 (fun hs => w_target_within p0 1 8 W1 φ5 hs h11) (.inr rfl) ?_
  rintro φ13 L14 v15 W16 le17 hS18 ⟨rfl, rfl⟩
  have hS19 : St ⟨w, [], φ⟩ φ13 [] W16 := hS18
  refine OKS.r rfl rfl rfl rfl (fun _ => Runs.notT rfl rfl) ?_
  refine OKS.r rfl rfl rfl rfl (fun _ => Runs.mv rfl rfl) ?_
  by_cases c20 : x10 = true
  · have hm21 := hm12; rw [if_pos c20] at hm21; replace c20 := Hid.mk c20
    refine OKS.r rfl rfl rfl (wantedY rfl rfl (congrArg (fun b => Value.bool (!b)) c20.out)) (fun _ => Runs.mv rfl rfl) ?_
    refine OKS.r rfl rfl rfl (wantedY rfl rfl (congrArg (fun b => Value.bool (!b)) c20.out)) (fun _ => Runs.len rfl rfl Try.runUnderlying24) ?_
    refine OKS.r rfl rfl rfl (wantedY rfl rfl (congrArg (fun b => Value.bool (!b)) c20.out)) (fun _ => Runs.gtr rfl rfl rfl) ?_
    refine OKS.r rfl rfl rfl rfl (fun _ => Runs.pickF rfl (congrArg (fun b => Value.bool (!b)) c20.out) rfl) ?_
    refine OKS.r rfl rfl rfl rfl (fun _ => Runs.as rfl rfl) ?_
    refine OKS.e ?_
    refine thenQ_n ?_
    by_cases c22 : 20 < (↑p1.length : Int)
    · have hm23 := hm21; rw [if_pos c22] at hm23; replace c22 := Hid.mk c22
      refine CK.condT (decT c22.out) ?_
      refine CK.seq ?_
      refine CK.reg (ks := []) (.fl 0 (.nil)) rfl ?_
      refine OKS.r rfl rfl rfl rfl (fun _ => Runs.as rfl rfl) ?_
      refine OKS.e ?_
      refine thenQ_n ?_
      refine CK.ret ?_
      refine blockQ_r ?_
      refine thenQ_r ?_
      cases hm23
      exact ⟨rfl, _, (res1 rfl), φ13, _, hS19, rfl, rfl⟩
    · have hm24 := hm21; rw [if_neg c22] at hm24; replace c22 := Hid.mk c22
      refine CK.condF (decF c22.out) ?_
      refine CK.seq ?_
      refine CK.reg (ks := []) (.fl 0 (.fl 1 (.fx 2 (.fl 3 (.fl 4 (.nil))) .stop))) rfl ?_
      refine OKS.r rfl rfl rfl rfl (fun _ => Runs.mv rfl rfl) ?_
      refine OKS.r rfl rfl rfl rfl (fun _ => Runs.mkf rfl mapnil (mapcons rfl mapnil)) ?_
      have h25 := ha0.le le6
      have h26 := h25.le le17
      have h27 := hC7.le le17
      have hF28 : FnOK Try.prog φ13 (.func (.func 84) #[] #[.pointer (some ⟨b2, 0, none⟩)]) ar151 rr151 (fun x => m_target_CheckSheets_1 x p0) := ⟨84, [], [.pointer (some ⟨b2, 0, none⟩)], rfl, Try.call84, fun φ1 w1 x y vs le hs ha hm => by obtain rfl := ha; exact w_target_CheckSheets_1 x p0 b2 w1 φ1 hs (h27.le le) hm⟩
      obtain ⟨x29, h30, hm31⟩ := bnd hm24
      refine OKS.callH 0 rfl rfl rfl rfl (Enters.mk rfl rfl Try.call83 (mapcons rfl (mapcons rfl mapnil)) rfl) hS19 (fun hs => w_target_all_target_Sheet p1 pA1 pc1 (fun x => m_target_CheckSheets_1 x p0) (.func (.func 84) #[] #[.pointer (some ⟨b2, 0, none⟩)]) W16 φ13 hs h26 hF28 h30) (.inr rfl) ?_
      rintro φ32 L33 v34 W35 le36 hS37 ⟨rfl, rfl⟩
      have hS38 : St ⟨w, [], φ⟩ φ32 [] W35 := hS37
      refine OKS.r rfl rfl rfl rfl (fun _ => Runs.notT rfl rfl) ?_
      refine OKS.r rfl rfl rfl rfl (fun _ => Runs.as rfl rfl) ?_
      refine OKS.e ?_
      refine thenQ_n ?_
      by_cases c39 : x29 = true
      · have hm40 := hm31; rw [if_pos c39] at hm40; replace c39 := Hid.mk c39
        refine CK.condF (congrArg (fun b => Value.bool (!b)) c39.out) ?_
        refine CK.seq ?_
        refine CK.reg (ks := []) (.fl 0 (.fx 1 (.fl 2 (.fl 3 (.nil))) .stop)) rfl ?_
        refine OKS.r rfl rfl rfl rfl (fun _ => Runs.mv rfl rfl) ?_
        have h41 := h26.le le36
        have hF42 : FnOK Try.prog φ32 (.func (.func 85) #[] #[]) ar151 rr151 m_target_CheckSheets_2 := ⟨85, [], [], rfl, Try.call85, fun φ1 w1 x y vs le hs ha hm => by obtain rfl := ha; exact w_target_CheckSheets_2 x w1 φ1 hs  hm⟩
        obtain ⟨x43, h44, hm45⟩ := bnd hm40
        refine OKS.callH 0 rfl rfl rfl rfl (Enters.mk rfl rfl Try.call83 (mapcons rfl (mapcons rfl mapnil)) rfl) hS38 (fun hs => w_target_all_target_Sheet p1 pA1 pc1 m_target_CheckSheets_2 (.func (.func 85) #[] #[]) W35 φ32 hs h41 hF42 h44) (.inr rfl) ?_
        rintro φ46 L47 v48 W49 le50 hS51 ⟨rfl, rfl⟩
        have hS52 : St ⟨w, [], φ⟩ φ46 [] W49 := hS51
        refine OKS.r rfl rfl rfl rfl (fun _ => Runs.notT rfl rfl) ?_
        refine OKS.r rfl rfl rfl rfl (fun _ => Runs.as rfl rfl) ?_
        refine OKS.e ?_
        refine thenQ_n ?_
        by_cases c53 : x43 = true
        · have hm54 := hm45; rw [if_pos c53] at hm54; replace c53 := Hid.mk c53
          refine CK.condF (congrArg (fun b => Value.bool (!b)) c53.out) ?_
          refine CK.skip ?_
          refine blockQ_n ?_
          refine thenQ_n ?_
          refine CK.seq ?_
          refine CK.reg (ks := []) (.fl 0 (.nil)) rfl ?_
          refine OKS.r rfl rfl rfl rfl (fun _ => Runs.as rfl rfl) ?_
          refine OKS.e ?_
          refine thenQ_n ?_
          refine CK.ret ?_
          cases hm54
          exact ⟨rfl, _, (res1 rfl), φ46, _, hS52, rfl, rfl⟩
        · have hm55 := hm45; rw [if_neg c53] at hm55; replace c53 := Hid.mk c53
          refine CK.condT (congrArg (fun b => Value.bool (!b)) (Bool.eq_false_iff.2 c53.out)) ?_
          refine CK.seq ?_
          refine CK.reg (ks := []) (.fl 0 (.nil)) rfl ?_
          refine OKS.r rfl rfl rfl rfl (fun _ => Runs.as rfl rfl) ?_
          refine OKS.e ?_
          refine thenQ_n ?_
          refine CK.ret ?_
          refine blockQ_r ?_
          refine thenQ_r ?_
          cases hm55
          exact ⟨rfl, _, (res1 rfl), φ46, _, hS52, rfl, rfl⟩
      · have hm56 := hm31; rw [if_neg c39] at hm56; replace c39 := Hid.mk c39
        refine CK.condT (congrArg (fun b => Value.bool (!b)) (Bool.eq_false_iff.2 c39.out)) ?_
        refine CK.seq ?_
        refine CK.reg (ks := []) (.fl 0 (.nil)) rfl ?_
        refine OKS.r rfl rfl rfl rfl (fun _ => Runs.as rfl rfl) ?_
        refine OKS.e ?_
        refine thenQ_n ?_
        refine CK.ret ?_
        refine blockQ_r ?_
        refine thenQ_r ?_
        cases hm56
        exact ⟨rfl, _, (res1 rfl), φ32, _, hS38, rfl, rfl⟩
  · have hm57 := hm12; rw [if_neg c20] at hm57; replace c20 := Hid.mk c20
    refine OKS.p rfl rfl rfl (wantedN rfl rfl (congrArg (fun b => Value.bool (!b)) (Bool.eq_false_iff.2 c20.out)) rfl) ?_
    refine OKS.p rfl rfl rfl (wantedN rfl rfl (congrArg (fun b => Value.bool (!b)) (Bool.eq_false_iff.2 c20.out)) rfl) ?_
    refine OKS.p rfl rfl rfl (wantedN rfl rfl (congrArg (fun b => Value.bool (!b)) (Bool.eq_false_iff.2 c20.out)) rfl) ?_
    refine OKS.r rfl rfl rfl rfl (fun _ => Runs.pickT rfl (congrArg (fun b => Value.bool (!b)) (Bool.eq_false_iff.2 c20.out)) rfl) ?_
    refine OKS.r rfl rfl rfl rfl (fun _ => Runs.as rfl rfl) ?_
    refine OKS.e ?_
    refine thenQ_n ?_
    refine CK.condT rfl ?_
    refine CK.seq ?_
    refine CK.reg (ks := []) (.fl 0 (.nil)) rfl ?_
    refine OKS.r rfl rfl rfl rfl (fun _ => Runs.as rfl rfl) ?_
    refine OKS.e ?_
    refine thenQ_n ?_
    refine CK.ret ?_
    refine blockQ_r ?_
    refine thenQ_r ?_
    cases hm57
    exact ⟨rfl, _, (res1 rfl), φ13, _, hS19, rfl, rfl⟩

set_option maxHeartbeats 4000000 in
theorem w_target_links_1_1 (p0 : Int) (pb0 : Nat) (w : World) (φ : PHeap) (hS : St ⟨w, [], φ⟩ φ [] w) (ha0 : Cl φ pb0 0 [.int .i64 p0]) {r : Int} (hm : m_target_links_1_1 p0 = some r) : Gv Try.prog 127 [.pointer (some ⟨pb0, 0, none⟩)] w (RetS w [] φ (fun φ_ L_ v => v = .int .i64 r ∧ L_ = [])) := by
  unfold m_target_links_1_1 at hm
  refine Gv.of Try.func127 rfl Try.ntmps127 Try.results127 rfl ?_
  refine CK.seq ?_
  refine CK.reg (ks := []) (.fl 0 (.nil)) rfl ?_
  refine OKS.r rfl rfl rfl rfl (fun _ => Runs.as rfl rfl) ?_
  refine OKS.e ?_
  refine thenQ_n ?_
  refine CK.seq ?_
  refine CK.reg (ks := []) (.fl 0 (.fl 1 (.nil))) rfl ?_
  refine OKS.m rfl rfl rfl rfl (hS.ldC (f := 0) ha0 (v := .int .i64 p0) rfl rfl Try.isAgg3 rfl) rfl ?_
  refine OKS.r rfl rfl rfl rfl (fun _ => Runs.as rfl rfl) ?_
  refine OKS.e ?_
  refine thenQ_n ?_
  refine CK.ret ?_
  cases hm
  exact ⟨rfl, _, (res1 rfl), φ, _, hS, rfl, rfl⟩

set_option maxHeartbeats 4000000 in
theorem w_target_links_1 (p0 : Int) (w : World) (φ : PHeap) (hS : St ⟨w, [], φ⟩ φ [] w)  {r : (Unit → Option Int)} (hm : m_target_links_1 p0 = some r) : Gv Try.prog 126 [.int .i64 p0] w (RetS w [] φ (fun φ_ L_ v => True ∧ L_ = [] ∧ FnOK Try.prog φ_ v ar187 rr187 r)) := by
  unfold m_target_links_1 at hm
  refine Gv.of Try.func126 rfl Try.ntmps126 Try.results126 rfl ?_
  refine CK.seq ?_
  refine CK.reg (ks := []) (.fx 0 (.fl 1 (.nil)) .stop) rfl ?_
  refine OKS.box (cs := [.int .i64 p0]) rfl rfl rfl rfl rfl rfl (by rfl) hS ?_
  intro W1 b2 hS3
  obtain ⟨φ5, le6, hC7, hS8⟩ := hS3.freeze (k := 0) rfl
  replace hC7 := Cl.of hC7
  have hS9 : St ⟨w, [], φ⟩ φ5 [] W1 := hS8
  replace hC7 : Cl φ5 b2 0 [.int .i64 p0] := hC7
  refine OKS.r rfl rfl rfl rfl (fun _ => Runs.as rfl rfl) ?_
  refine OKS.e ?_
  refine thenQ_n ?_
  refine CK.seq ?_
  refine CK.reg (ks := []) (.fl 0 (.fl 1 (.nil))) rfl ?_
  refine OKS.r rfl rfl rfl rfl (fun _ => Runs.mkf rfl mapnil (mapcons rfl mapnil)) ?_
  refine OKS.r rfl rfl rfl rfl (fun _ => Runs.as rfl rfl) ?_
  refine OKS.e ?_
  refine thenQ_n ?_
  refine CK.ret ?_
  have hF10 : FnOK Try.prog φ5 (.func (.func 127) #[] #[.pointer (some ⟨b2, 0, none⟩)]) ar187 rr187 (fun _ => m_target_links_1_1 p0) := ⟨127, [], [.pointer (some ⟨b2, 0, none⟩)], rfl, Try.call127, fun φ1 w1 x y vs le hs ha hm => by obtain rfl := ha; exact w_target_links_1_1 p0 b2 w1 φ1 hs (hC7.le le) hm⟩
  cases hm
  exact ⟨rfl, _, (res1 rfl), φ5, _, hS9, trivial, rfl, hF10⟩

set_option maxHeartbeats 4000000 in
theorem w_target_links (p0 : Int) (p1 : List T_target_Sheet) (pA1 : Option Addr) (pc1 : Nat) (p2 : List Int) (pA2 : Option Addr) (pc2 : Nat) (w : World) (φ : PHeap) (hS : St ⟨w, [], φ⟩ φ [] w) (ha0 : Sl φ 4 pA1 pc1 p1.length (List.flatMap encT_target_Sheet p1)) (ha1 : Sl φ 1 pA2 pc2 p2.length (List.flatMap encI p2)) {r : (List T_target_link)} (hm : m_target_links p0 p1 p2 = some r) : Gv Try.prog 77 [.int .i64 p0, .slice pA1 p1.length pc1, .slice pA2 p2.length pc2] w (RetS w [] φ (fun φ_ L_ v => ∃ (A0 : Option Addr) (c0 : Nat) (cs0 : List Value), v = .slice A0 r.length c0 ∧ L_ = [.row A0 c0 189 5 cs0] ∧ RlL φ_ rl189 r cs0)) := by
  unfold m_target_links at hm
  refine Gv.of Try.func77 rfl Try.ntmps77 Try.results77 rfl ?_
  refine CK.seq ?_
  refine CK.reg (ks := []) (.fl 0 (.nil)) rfl ?_
  refine OKS.r rfl rfl rfl rfl (fun _ => Runs.as rfl rfl) ?_
  refine OKS.e ?_
  refine thenQ_n ?_
  refine CK.seq ?_
  refine CK.reg (ks := []) (.fl 0 (.nil)) rfl ?_
  refine OKS.r rfl rfl rfl rfl (fun _ => Runs.as rfl rfl) ?_
  refine OKS.e ?_
  refine thenQ_n ?_
  refine CK.seq ?_
  refine CK.reg (ks := []) (.fl 0 (.nil)) rfl ?_
  refine OKS.r rfl rfl rfl rfl (fun _ => Runs.as rfl rfl) ?_
  refine OKS.e ?_
  refine thenQ_n ?_
  refine CK.seq ?_
  refine CK.seq ?_
  refine CK.reg (ks := []) (.fl 0 (.fl 1 (.fl 2 (.nil)))) rfl ?_
  refine OKS.r rfl rfl rfl rfl (fun _ => Runs.mv rfl rfl) ?_
  refine OKS.r rfl rfl rfl rfl (fun _ => Runs.len rfl rfl Try.runUnderlying24) ?_
  refine OKS.r rfl rfl rfl rfl (fun _ => Runs.mv rfl rfl) ?_
  refine OKS.e ?_
  refine thenQ_n ?_
  refine CK.block ?_
  obtain ⟨y27, hf24, hm23⟩ := bnd hm
  obtain ⟨hle25, hf26⟩ := forR'_le hf24
  replace hle25 := Hid.mk hle25
  refine CK.forN' (fun k22 l17 σ_ w_ => ∃ (φ_ : PHeap) (A18 : Option Addr) (c19 : Nat) (cs21 : List Value), σ_ 16 = .int .i64 (↑k22 : Int) ∧ σ_ 0 = .int .i64 p0 ∧ σ_ 2 = .slice pA2 p2.length pc2 ∧ σ_ 7 = .func (.func 126) #[] #[] ∧ σ_ 8 = .slice A18 l17.length c19 ∧ σ_ 14 = .slice pA1 p1.length pc1 ∧ σ_ 15 = .int .i64 (↑p1.length : Int) ∧ PHeap.Le φ φ_ ∧ St ⟨w, [], φ⟩ φ_ [.row A18 c19 189 5 cs21] w_ ∧ RlL φ_ rl189 l17 cs21) hf26 ?_ ?_ ?_
  · have hS28 := hS.nilrow 189 5
    exact ⟨φ, none, 0, [], rfl, rfl, rfl, rfl, rfl, rfl, rfl, (PHeap.Le.refl _), hS28, RlL.nil⟩
  · rintro k22 l17 xx32 σ30 W31 hk35 ⟨φ37, A18, c19, cs21, fi36, f40, f41, f42, f43, f44, f45, le38, hS39, h46⟩ hx33
    have c47 : Hid ((↑k22 : Int) < (↑p1.length : Int)) := Hid.mk (lp_lt0 hk35)
    replace hk35 := Hid.mk hk35
    have hi48 : Hid (w64 ((↑k22 : Int) + 1) = (↑(k22 + 1) : Int)) := Hid.mk (by have h1 := hle25.out; have h2 := c47.out; rw [w64_in] <;> omega)
    refine CK.seq ?_
    refine CK.reg (ks := []) (.fl 0 (.nil)) rfl ?_
    refine OKS.r rfl rfl rfl rfl (fun _ => Runs.lss rfl fi36 f45) ?_
    refine OKS.e ?_
    refine thenQ_n ?_
    refine CK.seq ?_
    refine CK.condT (decT c47.out) ?_
    refine CK.skip ?_
    refine thenQ_n ?_
    refine CK.seq ?_
    refine CK.block ?_
    refine CK.seq ?_
    refine CK.reg (ks := []) (.fl 0 (.fl 1 (.fl 2 (.fx 3 (.fl 4 (.fx 5 (.nil) .stop)) .stop)))) rfl ?_
    refine OKS.r rfl rfl rfl rfl (fun _ => Runs.mv rfl fi36) ?_
    obtain ⟨x49, h50, hm51⟩ := bnd hx33
    have h52 := ha0.le le38
    obtain ⟨b53, off54, hA55, hC56⟩ := h52.el (fun _ => rfl) (idx_get h50)
    refine OKS.r rfl rfl rfl rfl (fun _ => Runs.iaN rfl f44 hA55 fi36 Try.runUnderlying24 Try.sizeOf33 (idx_lt h50)) ?_
    refine OKS.m rfl rfl rfl rfl (hS39.ldCA (f := 0) hC56 rfl rfl Try.isAgg33 Try.sizeOf33 (us := [.int .i64 x49.From, .int .i64 x49.To, .int .i64 x49.Loops.Lo, .int .i64 x49.Loops.Hi]) rfl rfl) rfl ?_
    refine OKS.alloc (cs := [.int .i64 0, .int .i64 0, .int .i64 0, .int .i64 0]) rfl rfl rfl rfl rfl Try.zeroValue33 rfl hS39 ?_
    intro W57 b58 hS59
    refine OKS.r rfl rfl rfl rfl (fun _ => Runs.as rfl rfl) ?_
    refine OKS.st (j := 0) (vs := [.int .i64 x49.From, .int .i64 x49.To, .int .i64 x49.Loops.Lo, .int .i64 x49.Loops.Hi]) rfl rfl rfl rfl hS59 rfl rfl rfl rfl Try.sizeOf33 (Nat.le_of_ble_eq_true rfl) rfl rfl rfl ?_
    intro W61 hS62
    have hS63 : St ⟨w, [], φ⟩ φ37 [.blk b58 33 [.int .i64 x49.From, .int .i64 x49.To, .int .i64 x49.Loops.Lo, .int .i64 x49.Loops.Hi], .row A18 c19 189 5 cs21] W61 := hS62
    refine OKS.e ?_
    refine thenQ_n ?_
    refine CK.anyOrd Try.mixed [3, 3, 3, 3, 1, 3, 1, 3, 3, 3, 3, 1, 2, 3, 3, 3, 3, 1, 3, 3, 1, 3, 3, 3, 1, 3, 2, 3, 2, 0, 3] (.fl 0 (.fl 1 (.fl 2 (.fl 3 (.fl 4 (.fl 5 (.fl 6 (.fl 7 (.fl 8 (.fl 9 (.fl 10 (.fl 11 (.fl 14 (.fl 15 (.fl 16 (.fl 17 (.fl 18 (.fl 19 (.fl 20 (.fl 21 (.fl 22 (.fl 23 (.fl 24 (.fl 25 (.fx 12 (.fl 13 (.fx 26 (.fl 27 (.fx 28 (.fx 29 (.fl 30 (.nil)) .stop) .stop)) .stop)) .stop))))))))))))))))))))))))) (by kernel_rfl) ?_
    have hS64 := hS63.drew
    generalize hw_W65 : ({ W61 with drawn := W61.drawn + 1 } : World) = W65 at hS64 ⊢
    refine OKS.r rfl rfl rfl rfl (fun _ => Runs.mv rfl f43) ?_
    refine OKS.r rfl rfl rfl rfl (fun _ => Runs.mv rfl rfl) ?_
    refine OKS.r rfl rfl rfl rfl (fun _ => Runs.build (pv := [(0, .int .i64 0), (1, .int .i64 (↑k22 : Int))]) (z := [.int .i64 0, .int .i64 0]) (cs := [.int .i64 0, .int .i64 (↑k22 : Int)]) rfl (mapcons2 rfl (mapcons2 rfl mapnil2)) Try.zeroValue114 places114 rfl rfl) ?_
    refine OKS.r rfl rfl rfl rfl (fun _ => Runs.fa rfl rfl Try.runUnderlying33 rfl Try.sizeOf3) ?_
    refine OKS.m rfl rfl rfl rfl (hS64.ldB (j := 0) rfl rfl rfl Try.isAgg3 (v := .int .i64 x49.From) rfl) rfl ?_
    refine OKS.r rfl rfl rfl rfl (fun _ => Runs.fa rfl rfl Try.runUnderlying33 rfl Try.sizeOf3) ?_
    refine OKS.m rfl rfl rfl rfl (hS64.ldB (j := 0) rfl rfl rfl Try.isAgg3 (v := .int .i64 x49.To) rfl) rfl ?_
    refine OKS.r rfl rfl rfl rfl (fun _ => Runs.addw rfl rfl rfl) ?_
    refine OKS.r rfl rfl rfl rfl (fun _ => Runs.mv rfl f42) ?_
    refine OKS.r rfl rfl rfl rfl (fun _ => Runs.fa rfl rfl Try.runUnderlying33 rfl Try.sizeOf31) ?_
    refine OKS.r rfl rfl rfl rfl (fun _ => Runs.fa rfl rfl Try.runUnderlying31 rfl Try.sizeOf3) ?_
    refine OKS.m rfl rfl rfl rfl (hS64.ldB (j := 0) rfl rfl rfl Try.isAgg3 (v := .int .i64 x49.Loops.Hi) rfl) rfl ?_
    refine OKS.r rfl rfl rfl rfl (fun _ => Runs.mv rfl rfl) ?_
    refine OKS.r rfl rfl rfl rfl (fun _ => Runs.build (pv := [(0, .int .i64 1), (1, .int .i64 (↑k22 : Int))]) (z := [.int .i64 0, .int .i64 0]) (cs := [.int .i64 1, .int .i64 (↑k22 : Int)]) rfl (mapcons2 rfl (mapcons2 rfl mapnil2)) Try.zeroValue114 places114 rfl rfl) ?_
    refine OKS.r rfl rfl rfl rfl (fun _ => Runs.fa rfl rfl Try.runUnderlying33 rfl Try.sizeOf3) ?_
    refine OKS.m rfl rfl rfl rfl (hS64.ldB (j := 0) rfl rfl rfl Try.isAgg3 (v := .int .i64 x49.To) rfl) rfl ?_
    refine OKS.r rfl rfl rfl rfl (fun _ => Runs.addw rfl rfl rfl) ?_
    refine OKS.r rfl rfl rfl rfl (fun _ => Runs.fa rfl rfl Try.runUnderlying33 rfl Try.sizeOf3) ?_
    refine OKS.m rfl rfl rfl rfl (hS64.ldB (j := 0) rfl rfl rfl Try.isAgg3 (v := .int .i64 x49.From) rfl) rfl ?_
    refine OKS.r rfl rfl rfl rfl (fun _ => Runs.mv rfl f42) ?_
    refine OKS.r rfl rfl rfl rfl (fun _ => Runs.fa rfl rfl Try.runUnderlying33 rfl Try.sizeOf31) ?_
    refine OKS.r rfl rfl rfl rfl (fun _ => Runs.fa rfl rfl Try.runUnderlying31 rfl Try.sizeOf3) ?_
    refine OKS.m rfl rfl rfl rfl (hS64.ldB (j := 0) rfl rfl rfl Try.isAgg3 (v := .int .i64 x49.Loops.Lo) rfl) rfl ?_
    refine OKS.r rfl rfl rfl rfl (fun _ => Runs.negw rfl rfl) ?_
    obtain ⟨x66, h67, hm68⟩ := bnd hm51
    refine OKS.callH 0 rfl rfl rfl rfl (Enters.mk rfl rfl Try.call126 (mapcons rfl mapnil) rfl) hS64 (fun hs => w_target_links_1 x49.Loops.Hi W65 φ37 hs h67) (.inr rfl) ?_
    rintro φ69 L70 v71 W72 le73 hS74 ⟨_, rfl, h75⟩
    have hS76 : St ⟨w, [], φ⟩ φ69 [.blk b58 33 [.int .i64 x49.From, .int .i64 x49.To, .int .i64 x49.Loops.Lo, .int .i64 x49.Loops.Hi], .row A18 c19 189 5 cs21] W72 := hS74
    obtain ⟨fid77, fst78, cap79, he80, _⟩ := id h75
    subst he80
    refine OKS.r rfl rfl rfl rfl (fun _ => Runs.build (pv := [(0, .agg #[.int .i64 0, .int .i64 (↑k22 : Int)]), (1, .int .i64 x49.From), (2, .int .i64 (w64 (x49.To + 1))), (3, (.func (.func fid77) (List.toArray fst78) (List.toArray cap79)))]) (z := [.int .i64 0, .int .i64 0, .int .i64 0, .int .i64 0, .nilFunc]) (cs := [.int .i64 0, .int .i64 (↑k22 : Int), .int .i64 x49.From, .int .i64 (w64 (x49.To + 1)), (.func (.func fid77) (List.toArray fst78) (List.toArray cap79))]) rfl (mapcons2 rfl (mapcons2 rfl (mapcons2 rfl (mapcons2 rfl mapnil2)))) Try.zeroValue189 places189 rfl rfl) ?_
    obtain ⟨x81, h82, hm83⟩ := bnd hm68
    refine OKS.callH 0 rfl rfl rfl rfl (Enters.mk rfl rfl Try.call126 (mapcons rfl mapnil) rfl) hS76 (fun hs => w_target_links_1 (w64 (-x49.Loops.Lo)) W72 φ69 hs h82) (.inr rfl) ?_
    rintro φ84 L85 v86 W87 le88 hS89 ⟨_, rfl, h90⟩
    have hS91 : St ⟨w, [], φ⟩ φ84 [.blk b58 33 [.int .i64 x49.From, .int .i64 x49.To, .int .i64 x49.Loops.Lo, .int .i64 x49.Loops.Hi], .row A18 c19 189 5 cs21] W87 := hS89
    obtain ⟨fid92, fst93, cap94, he95, _⟩ := id h90
    subst he95
    refine OKS.r rfl rfl rfl rfl (fun _ => Runs.build (pv := [(0, .agg #[.int .i64 1, .int .i64 (↑k22 : Int)]), (1, .int .i64 (w64 (x49.To + 1))), (2, .int .i64 x49.From), (3, (.func (.func fid92) (List.toArray fst93) (List.toArray cap94)))]) (z := [.int .i64 0, .int .i64 0, .int .i64 0, .int .i64 0, .nilFunc]) (cs := [.int .i64 1, .int .i64 (↑k22 : Int), .int .i64 (w64 (x49.To + 1)), .int .i64 x49.From, (.func (.func fid92) (List.toArray fst93) (List.toArray cap94))]) rfl (mapcons2 rfl (mapcons2 rfl (mapcons2 rfl (mapcons2 rfl mapnil2)))) Try.zeroValue189 places189 rfl rfl) ?_
    refine OKS.buildSlice (pv := [(0, .agg #[.int .i64 0, .int .i64 (↑k22 : Int), .int .i64 x49.From, .int .i64 (w64 (x49.To + 1)), (.func (.func fid77) (List.toArray fst78) (List.toArray cap79))]), (1, .agg #[.int .i64 1, .int .i64 (↑k22 : Int), .int .i64 (w64 (x49.To + 1)), .int .i64 x49.From, (.func (.func fid92) (List.toArray fst93) (List.toArray cap94))])]) (zs := [.int .i64 0, .int .i64 0, .int .i64 0, .int .i64 0, .nilFunc, .int .i64 0, .int .i64 0, .int .i64 0, .int .i64 0, .nilFunc]) (cs := [.int .i64 0, .int .i64 (↑k22 : Int), .int .i64 x49.From, .int .i64 (w64 (x49.To + 1)), (.func (.func fid77) (List.toArray fst78) (List.toArray cap79)), .int .i64 1, .int .i64 (↑k22 : Int), .int .i64 (w64 (x49.To + 1)), .int .i64 x49.From, (.func (.func fid92) (List.toArray fst93) (List.toArray cap94))]) rfl rfl rfl rfl rfl (mapcons2 rfl (mapcons2 rfl mapnil2)) Try.runUnderlying142 Try.sizeOf189 Try.zeroValue189 rfl rfl rfl rfl rfl hS91 ?_
    intro W96 b97 hS98
    have h100 := h75.le le88
    have hr101 : RlL φ84 rl189 [(⟨(⟨0, (↑k22 : Int)⟩ : T_target_Step), x49.From, w64 (x49.To + 1), x66⟩ : T_target_link), (⟨(⟨1, (↑k22 : Int)⟩ : T_target_Step), w64 (x49.To + 1), x49.From, x81⟩ : T_target_link)] [.int .i64 0, .int .i64 (↑k22 : Int), .int .i64 x49.From, .int .i64 (w64 (x49.To + 1)), (.func (.func fid77) (List.toArray fst78) (List.toArray cap79)), .int .i64 1, .int .i64 (↑k22 : Int), .int .i64 (w64 (x49.To + 1)), .int .i64 x49.From, (.func (.func fid92) (List.toArray fst93) (List.toArray cap94))] := (RlL.cons (R := rl189) (x := (⟨(⟨0, (↑k22 : Int)⟩ : T_target_Step), x49.From, w64 (x49.To + 1), x66⟩ : T_target_link)) (vs := [.int .i64 0, .int .i64 (↑k22 : Int), .int .i64 x49.From, .int .i64 (w64 (x49.To + 1)), (.func (.func fid77) (List.toArray fst78) (List.toArray cap79))]) ⟨(.func (.func fid77) (List.toArray fst78) (List.toArray cap79)), rfl, h100⟩ (RlL.cons (R := rl189) (x := (⟨(⟨1, (↑k22 : Int)⟩ : T_target_Step), w64 (x49.To + 1), x49.From, x81⟩ : T_target_link)) (vs := [.int .i64 1, .int .i64 (↑k22 : Int), .int .i64 (w64 (x49.To + 1)), .int .i64 x49.From, (.func (.func fid92) (List.toArray fst93) (List.toArray cap94))]) ⟨(.func (.func fid92) (List.toArray fst93) (List.toArray cap94)), rfl, h90⟩ RlL.nil))
    have hS102 : St ⟨w, [], φ⟩ φ84 [.row (some ⟨b97, 0, none⟩) 2 189 5 [.int .i64 0, .int .i64 (↑k22 : Int), .int .i64 x49.From, .int .i64 (w64 (x49.To + 1)), (.func (.func fid77) (List.toArray fst78) (List.toArray cap79)), .int .i64 1, .int .i64 (↑k22 : Int), .int .i64 (w64 (x49.To + 1)), .int .i64 x49.From, (.func (.func fid92) (List.toArray fst93) (List.toArray cap94))], .blk b58 33 [.int .i64 x49.From, .int .i64 x49.To, .int .i64 x49.Loops.Lo, .int .i64 x49.Loops.Hi], .row A18 c19 189 5 cs21] W96 := hS98
    obtain ⟨x103, h104, hm105⟩ := bnd hm83
    have h112 := h46.le le73
    have h113 := h112.le le88
    refine OKS.appendR (R := rl189) (j := 2) (xs := l17) (ys := [(⟨(⟨0, (↑k22 : Int)⟩ : T_target_Step), x49.From, w64 (x49.To + 1), x66⟩ : T_target_link), (⟨(⟨1, (↑k22 : Int)⟩ : T_target_Step), w64 (x49.To + 1), x49.From, x81⟩ : T_target_link)]) (zs := x103) rfl rfl rfl rfl rfl Try.underlying142 info189 rfl rfl rfl rfl rfl rfl rfl hS102 rfl rfl rfl h113 hr101 (hS102.srcR (j := 0) rfl (by decide) (RlL.len hr101)) h104 rfl ?_
    intro A106 c107 cs108 W109 hS110 hr111
    have hS114 : St ⟨w, [], φ⟩ φ84 [.row (some ⟨b97, 0, none⟩) 2 189 5 [.int .i64 0, .int .i64 (↑k22 : Int), .int .i64 x49.From, .int .i64 (w64 (x49.To + 1)), (.func (.func fid77) (List.toArray fst78) (List.toArray cap79)), .int .i64 1, .int .i64 (↑k22 : Int), .int .i64 (w64 (x49.To + 1)), .int .i64 x49.From, (.func (.func fid92) (List.toArray fst93) (List.toArray cap94))], .blk b58 33 [.int .i64 x49.From, .int .i64 x49.To, .int .i64 x49.Loops.Lo, .int .i64 x49.Loops.Hi], .row A106 c107 189 5 cs108] W109 := hS110
    refine OKS.r rfl rfl rfl rfl (fun _ => Runs.as rfl rfl) ?_
    refine OKS.e ?_
    refine blockQ_n ?_
    refine thenQ_n ?_
    refine CK.reg (ks := []) (.fl 0 (.fl 1 (.nil))) rfl ?_
    refine OKS.r rfl rfl rfl rfl (fun _ => Runs.to (Runs.addw rfl fi36 rfl) (congrArg (Value.int .i64) hi48.out)) ?_
    refine OKS.r rfl rfl rfl rfl (fun _ => Runs.mv rfl rfl) ?_
    refine OKS.e ?_
    cases hm105
    exact thenQ_n ⟨rfl, ⟨φ84, A106, c107, cs108, rfl, f40, f41, f42, rfl, f44, f45, ((le38.trans le73).trans le88), (hS114.pick [2] _ (by decide) rfl), hr111⟩⟩
  · rintro σ119 W120 ⟨φ130, A127, c128, c129, fi122, f133, f134, f135, f136, f137, f138, le131, hS132, h139⟩
    have c140 : Hid (¬ ((↑(((↑p1.length : Int) : Int) - 0).toNat : Int) < (↑p1.length : Int))) := Hid.mk (lp_end0)
    refine CK.seq ?_
    refine CK.reg (ks := []) (.fl 0 (.nil)) rfl ?_
    refine OKS.r rfl rfl rfl rfl (fun _ => Runs.lss rfl fi122 f138) ?_
    refine OKS.e ?_
    refine thenQ_n ?_
    refine CK.seq ?_
    refine CK.condF (decF c140.out) ?_
    refine CK.exit ?_
    refine thenQ_e ?_
    refine thenQ_e ?_
    refine blockQ_h ?_
    refine thenQ_n ?_
    refine CK.seq ?_
    refine CK.seq ?_
    refine CK.reg (ks := []) (.fl 0 (.fl 1 (.nil))) rfl ?_
    refine OKS.r rfl rfl rfl rfl (fun _ => Runs.mv rfl f133) ?_
    refine OKS.r rfl rfl rfl rfl (fun _ => Runs.mv rfl rfl) ?_
    refine OKS.e ?_
    refine thenQ_n ?_
    refine CK.block ?_
    obtain ⟨y164, hf161, hm160⟩ := bnd hm23
    obtain ⟨hle162, hf163⟩ := forR'_le hf161
    replace hle162 := Hid.mk hle162
    refine CK.forN' (fun k159 l155 σ_ w_ => ∃ (φ_ : PHeap) (A156 : Option Addr) (c157 : Nat) (cs158 : List Value), σ_ 53 = .int .i64 (↑k159 : Int) ∧ σ_ 2 = .slice pA2 p2.length pc2 ∧ σ_ 7 = .func (.func 126) #[] #[] ∧ σ_ 8 = .slice A156 l155.length c157 ∧ σ_ 52 = .int .i64 p0 ∧ PHeap.Le φ130 φ_ ∧ St ⟨w, [], φ⟩ φ_ [.row A156 c157 189 5 cs158] w_ ∧ RlL φ_ rl189 l155 cs158) hf163 ?_ ?_ ?_
    · exact ⟨φ130, A127, c128, c129, rfl, f134, f135, f136, rfl, (PHeap.Le.refl _), hS132, h139⟩
    · rintro k159 l155 xx167 σ165 W166 hk170 ⟨φ172, A156, c157, cs158, fi171, f175, f176, f177, f178, le173, hS174, h179⟩ hx168
      have c180 : Hid ((↑k159 : Int) < p0) := Hid.mk (lp_lt0 hk170)
      replace hk170 := Hid.mk hk170
      have hi181 : Hid (w64 ((↑k159 : Int) + 1) = (↑(k159 + 1) : Int)) := Hid.mk (by have h1 := hle162.out; have h2 := c180.out; rw [w64_in] <;> omega)
      refine CK.seq ?_
      refine CK.reg (ks := []) (.fl 0 (.nil)) rfl ?_
      refine OKS.r rfl rfl rfl rfl (fun _ => Runs.lss rfl fi171 f178) ?_
      refine OKS.e ?_
      refine thenQ_n ?_
      refine CK.seq ?_
      refine CK.condT (decT c180.out) ?_
      refine CK.skip ?_
      refine thenQ_n ?_
      refine CK.seq ?_
      refine CK.block ?_
      refine CK.seq ?_
      refine CK.reg (ks := []) (.fl 0 (.fl 1 (.nil))) rfl ?_
      refine OKS.r rfl rfl rfl rfl (fun _ => Runs.mv rfl fi171) ?_
      refine OKS.r rfl rfl rfl rfl (fun _ => Runs.as rfl rfl) ?_
      refine OKS.e ?_
      refine thenQ_n ?_
      refine CK.reg (ks := []) (.fl 0 (.fl 1 (.fl 2 (.fl 3 (.fl 4 (.fl 5 (.fl 6 (.fx 7 (.fl 8 (.fl 9 (.fl 10 (.fl 11 (.fl 12 (.fl 13 (.fl 14 (.fx 15 (.fl 16 (.fx 17 (.fx 18 (.fl 19 (.nil)) .stop) .stop)) .stop)))))))) .stop)))))))) rfl ?_
      refine OKS.r rfl rfl rfl rfl (fun _ => Runs.mv rfl f177) ?_
      refine OKS.r rfl rfl rfl rfl (fun _ => Runs.mv rfl rfl) ?_
      refine OKS.r rfl rfl rfl rfl (fun _ => Runs.build (pv := [(0, .int .i64 2), (1, .int .i64 (↑k159 : Int))]) (z := [.int .i64 0, .int .i64 0]) (cs := [.int .i64 2, .int .i64 (↑k159 : Int)]) rfl (mapcons2 rfl (mapcons2 rfl mapnil2)) Try.zeroValue114 places114 rfl rfl) ?_
      refine OKS.r rfl rfl rfl rfl (fun _ => Runs.mv rfl rfl) ?_
      refine OKS.r rfl rfl rfl rfl (fun _ => Runs.mv rfl rfl) ?_
      refine OKS.r rfl rfl rfl rfl (fun _ => Runs.to (Runs.addw rfl rfl rfl) (congrArg (Value.int .i64) hi181.out)) ?_
      refine OKS.r rfl rfl rfl rfl (fun _ => Runs.mv rfl f176) ?_
      obtain ⟨x182, h183, hm184⟩ := bnd hx168
      refine OKS.callH 0 rfl rfl rfl rfl (Enters.mk rfl rfl Try.call126 (mapcons rfl mapnil) rfl) hS174 (fun hs => w_target_links_1 9 W166 φ172 hs h183) (.inr rfl) ?_
      rintro φ185 L186 v187 W188 le189 hS190 ⟨_, rfl, h191⟩
      have hS192 : St ⟨w, [], φ⟩ φ185 [.row A156 c157 189 5 cs158] W188 := hS190
      obtain ⟨fid193, fst194, cap195, he196, _⟩ := id h191
      subst he196
      refine OKS.r rfl rfl rfl rfl (fun _ => Runs.build (pv := [(0, .agg #[.int .i64 2, .int .i64 (↑k159 : Int)]), (1, .int .i64 (↑k159 : Int)), (2, .int .i64 (↑(k159 + 1) : Int)), (3, (.func (.func fid193) (List.toArray fst194) (List.toArray cap195)))]) (z := [.int .i64 0, .int .i64 0, .int .i64 0, .int .i64 0, .nilFunc]) (cs := [.int .i64 2, .int .i64 (↑k159 : Int), .int .i64 (↑k159 : Int), .int .i64 (↑(k159 + 1) : Int), (.func (.func fid193) (List.toArray fst194) (List.toArray cap195))]) rfl (mapcons2 rfl (mapcons2 rfl (mapcons2 rfl (mapcons2 rfl mapnil2)))) Try.zeroValue189 places189 rfl rfl) ?_
      refine OKS.r rfl rfl rfl rfl (fun _ => Runs.mv rfl rfl) ?_
      refine OKS.r rfl rfl rfl rfl (fun _ => Runs.build (pv := [(0, .int .i64 3), (1, .int .i64 (↑k159 : Int))]) (z := [.int .i64 0, .int .i64 0]) (cs := [.int .i64 3, .int .i64 (↑k159 : Int)]) rfl (mapcons2 rfl (mapcons2 rfl mapnil2)) Try.zeroValue114 places114 rfl rfl) ?_
      refine OKS.r rfl rfl rfl rfl (fun _ => Runs.mv rfl rfl) ?_
      refine OKS.r rfl rfl rfl rfl (fun _ => Runs.to (Runs.addw rfl rfl rfl) (congrArg (Value.int .i64) hi181.out)) ?_
      refine OKS.r rfl rfl rfl rfl (fun _ => Runs.mv rfl rfl) ?_
      refine OKS.r rfl rfl rfl rfl (fun _ => Runs.mv rfl f176) ?_
      obtain ⟨x197, h198, hm199⟩ := bnd hm184
      refine OKS.callH 0 rfl rfl rfl rfl (Enters.mk rfl rfl Try.call126 (mapcons rfl mapnil) rfl) hS192 (fun hs => w_target_links_1 0 W188 φ185 hs h198) (.inr rfl) ?_
      rintro φ200 L201 v202 W203 le204 hS205 ⟨_, rfl, h206⟩
      have hS207 : St ⟨w, [], φ⟩ φ200 [.row A156 c157 189 5 cs158] W203 := hS205
      obtain ⟨fid208, fst209, cap210, he211, _⟩ := id h206
      subst he211
      refine OKS.r rfl rfl rfl rfl (fun _ => Runs.build (pv := [(0, .agg #[.int .i64 3, .int .i64 (↑k159 : Int)]), (1, .int .i64 (↑(k159 + 1) : Int)), (2, .int .i64 (↑k159 : Int)), (3, (.func (.func fid208) (List.toArray fst209) (List.toArray cap210)))]) (z := [.int .i64 0, .int .i64 0, .int .i64 0, .int .i64 0, .nilFunc]) (cs := [.int .i64 3, .int .i64 (↑k159 : Int), .int .i64 (↑(k159 + 1) : Int), .int .i64 (↑k159 : Int), (.func (.func fid208) (List.toArray fst209) (List.toArray cap210))]) rfl (mapcons2 rfl (mapcons2 rfl (mapcons2 rfl (mapcons2 rfl mapnil2)))) Try.zeroValue189 places189 rfl rfl) ?_
      refine OKS.buildSlice (pv := [(0, .agg #[.int .i64 2, .int .i64 (↑k159 : Int), .int .i64 (↑k159 : Int), .int .i64 (↑(k159 + 1) : Int), (.func (.func fid193) (List.toArray fst194) (List.toArray cap195))]), (1, .agg #[.int .i64 3, .int .i64 (↑k159 : Int), .int .i64 (↑(k159 + 1) : Int), .int .i64 (↑k159 : Int), (.func (.func fid208) (List.toArray fst209) (List.toArray cap210))])]) (zs := [.int .i64 0, .int .i64 0, .int .i64 0, .int .i64 0, .nilFunc, .int .i64 0, .int .i64 0, .int .i64 0, .int .i64 0, .nilFunc]) (cs := [.int .i64 2, .int .i64 (↑k159 : Int), .int .i64 (↑k159 : Int), .int .i64 (↑(k159 + 1) : Int), (.func (.func fid193) (List.toArray fst194) (List.toArray cap195)), .int .i64 3, .int .i64 (↑k159 : Int), .int .i64 (↑(k159 + 1) : Int), .int .i64 (↑k159 : Int), (.func (.func fid208) (List.toArray fst209) (List.toArray cap210))]) rfl rfl rfl rfl rfl (mapcons2 rfl (mapcons2 rfl mapnil2)) Try.runUnderlying142 Try.sizeOf189 Try.zeroValue189 rfl rfl rfl rfl rfl hS207 ?_
      intro W212 b213 hS214
      have h216 := h191.le le204
      have hr217 : RlL φ200 rl189 [(⟨(⟨2, (↑k159 : Int)⟩ : T_target_Step), (↑k159 : Int), (↑(k159 + 1) : Int), x182⟩ : T_target_link), (⟨(⟨3, (↑k159 : Int)⟩ : T_target_Step), (↑(k159 + 1) : Int), (↑k159 : Int), x197⟩ : T_target_link)] [.int .i64 2, .int .i64 (↑k159 : Int), .int .i64 (↑k159 : Int), .int .i64 (↑(k159 + 1) : Int), (.func (.func fid193) (List.toArray fst194) (List.toArray cap195)), .int .i64 3, .int .i64 (↑k159 : Int), .int .i64 (↑(k159 + 1) : Int), .int .i64 (↑k159 : Int), (.func (.func fid208) (List.toArray fst209) (List.toArray cap210))] := (RlL.cons (R := rl189) (x := (⟨(⟨2, (↑k159 : Int)⟩ : T_target_Step), (↑k159 : Int), (↑(k159 + 1) : Int), x182⟩ : T_target_link)) (vs := [.int .i64 2, .int .i64 (↑k159 : Int), .int .i64 (↑k159 : Int), .int .i64 (↑(k159 + 1) : Int), (.func (.func fid193) (List.toArray fst194) (List.toArray cap195))]) ⟨(.func (.func fid193) (List.toArray fst194) (List.toArray cap195)), rfl, h216⟩ (RlL.cons (R := rl189) (x := (⟨(⟨3, (↑k159 : Int)⟩ : T_target_Step), (↑(k159 + 1) : Int), (↑k159 : Int), x197⟩ : T_target_link)) (vs := [.int .i64 3, .int .i64 (↑k159 : Int), .int .i64 (↑(k159 + 1) : Int), .int .i64 (↑k159 : Int), (.func (.func fid208) (List.toArray fst209) (List.toArray cap210))]) ⟨(.func (.func fid208) (List.toArray fst209) (List.toArray cap210)), rfl, h206⟩ RlL.nil))
      have hS218 : St ⟨w, [], φ⟩ φ200 [.row (some ⟨b213, 0, none⟩) 2 189 5 [.int .i64 2, .int .i64 (↑k159 : Int), .int .i64 (↑k159 : Int), .int .i64 (↑(k159 + 1) : Int), (.func (.func fid193) (List.toArray fst194) (List.toArray cap195)), .int .i64 3, .int .i64 (↑k159 : Int), .int .i64 (↑(k159 + 1) : Int), .int .i64 (↑k159 : Int), (.func (.func fid208) (List.toArray fst209) (List.toArray cap210))], .row A156 c157 189 5 cs158] W212 := hS214
      obtain ⟨x219, h220, hm221⟩ := bnd hm199
      have h228 := h179.le le189
      have h229 := h228.le le204
      refine OKS.appendR (R := rl189) (j := 1) (xs := l155) (ys := [(⟨(⟨2, (↑k159 : Int)⟩ : T_target_Step), (↑k159 : Int), (↑(k159 + 1) : Int), x182⟩ : T_target_link), (⟨(⟨3, (↑k159 : Int)⟩ : T_target_Step), (↑(k159 + 1) : Int), (↑k159 : Int), x197⟩ : T_target_link)]) (zs := x219) rfl rfl rfl rfl rfl Try.underlying142 info189 rfl rfl rfl rfl rfl rfl rfl hS218 rfl rfl rfl h229 hr217 (hS218.srcR (j := 0) rfl (by decide) (RlL.len hr217)) h220 rfl ?_
      intro A222 c223 cs224 W225 hS226 hr227
      have hS230 : St ⟨w, [], φ⟩ φ200 [.row (some ⟨b213, 0, none⟩) 2 189 5 [.int .i64 2, .int .i64 (↑k159 : Int), .int .i64 (↑k159 : Int), .int .i64 (↑(k159 + 1) : Int), (.func (.func fid193) (List.toArray fst194) (List.toArray cap195)), .int .i64 3, .int .i64 (↑k159 : Int), .int .i64 (↑(k159 + 1) : Int), .int .i64 (↑k159 : Int), (.func (.func fid208) (List.toArray fst209) (List.toArray cap210))], .row A222 c223 189 5 cs224] W225 := hS226
      refine OKS.r rfl rfl rfl rfl (fun _ => Runs.as rfl rfl) ?_
      refine OKS.e ?_
      refine blockQ_n ?_
      refine thenQ_n ?_
      refine CK.reg (ks := []) (.fl 0 (.fl 1 (.nil))) rfl ?_
      refine OKS.r rfl rfl rfl rfl (fun _ => Runs.to (Runs.addw rfl fi171 rfl) (congrArg (Value.int .i64) hi181.out)) ?_
      refine OKS.r rfl rfl rfl rfl (fun _ => Runs.mv rfl rfl) ?_
      refine OKS.e ?_
      cases hm221
      exact thenQ_n ⟨rfl, ⟨φ200, A222, c223, cs224, rfl, f175, f176, rfl, f178, ((le173.trans le189).trans le204), (hS230.pick [1] _ (by decide) rfl), hr227⟩⟩
    · rintro σ235 W236 ⟨φ246, A243, c244, c245, fi238, f249, f250, f251, f252, le247, hS248, h253⟩
      have c254 : Hid (¬ ((↑((p0 : Int) - 0).toNat : Int) < p0)) := Hid.mk (lp_end0)
      refine CK.seq ?_
      refine CK.reg (ks := []) (.fl 0 (.nil)) rfl ?_
      refine OKS.r rfl rfl rfl rfl (fun _ => Runs.lss rfl fi238 f252) ?_
      refine OKS.e ?_
      refine thenQ_n ?_
      refine CK.seq ?_
      refine CK.condF (decF c254.out) ?_
      refine CK.exit ?_
      refine thenQ_e ?_
      refine thenQ_e ?_
      refine blockQ_h ?_
      refine thenQ_n ?_
      refine CK.seq ?_
      refine CK.seq ?_
      refine CK.reg (ks := []) (.fl 0 (.fl 1 (.fl 2 (.nil)))) rfl ?_
      refine OKS.r rfl rfl rfl rfl (fun _ => Runs.mv rfl f249) ?_
      refine OKS.r rfl rfl rfl rfl (fun _ => Runs.len rfl rfl Try.runUnderlying23) ?_
      refine OKS.r rfl rfl rfl rfl (fun _ => Runs.mv rfl rfl) ?_
      refine OKS.e ?_
      refine thenQ_n ?_
      refine CK.block ?_
      obtain ⟨y278, hf275, hm274⟩ := bnd hm160
      obtain ⟨hle276, hf277⟩ := forR'_le hf275
      replace hle276 := Hid.mk hle276
      refine CK.forN' (fun k273 l269 σ_ w_ => ∃ (φ_ : PHeap) (A270 : Option Addr) (c271 : Nat) (cs272 : List Value), σ_ 78 = .int .i64 (↑k273 : Int) ∧ σ_ 7 = .func (.func 126) #[] #[] ∧ σ_ 8 = .slice A270 l269.length c271 ∧ σ_ 76 = .slice pA2 p2.length pc2 ∧ σ_ 77 = .int .i64 (↑p2.length : Int) ∧ PHeap.Le φ246 φ_ ∧ St ⟨w, [], φ⟩ φ_ [.row A270 c271 189 5 cs272] w_ ∧ RlL φ_ rl189 l269 cs272) hf277 ?_ ?_ ?_
      · exact ⟨φ246, A243, c244, c245, rfl, f250, f251, rfl, rfl, (PHeap.Le.refl _), hS248, h253⟩
      · rintro k273 l269 xx281 σ279 W280 hk284 ⟨φ286, A270, c271, cs272, fi285, f289, f290, f291, f292, le287, hS288, h293⟩ hx282
        have c294 : Hid ((↑k273 : Int) < (↑p2.length : Int)) := Hid.mk (lp_lt0 hk284)
        replace hk284 := Hid.mk hk284
        have hi295 : Hid (w64 ((↑k273 : Int) + 1) = (↑(k273 + 1) : Int)) := Hid.mk (by have h1 := hle276.out; have h2 := c294.out; rw [w64_in] <;> omega)
        refine CK.seq ?_
        refine CK.reg (ks := []) (.fl 0 (.nil)) rfl ?_
        refine OKS.r rfl rfl rfl rfl (fun _ => Runs.lss rfl fi285 f292) ?_
        refine OKS.e ?_
        refine thenQ_n ?_
        refine CK.seq ?_
        refine CK.condT (decT c294.out) ?_
        refine CK.skip ?_
        refine thenQ_n ?_
        refine CK.seq ?_
        refine CK.block ?_
        refine CK.seq ?_
        refine CK.reg (ks := []) (.fl 0 (.fl 1 (.fl 2 (.fl 3 (.fl 4 (.nil)))))) rfl ?_
        refine OKS.r rfl rfl rfl rfl (fun _ => Runs.mv rfl fi285) ?_
        obtain ⟨x296, h297, hm298⟩ := bnd hx282
        have h299 := ha1.le le131
        have h300 := h299.le le247
        have h301 := h300.le le287
        obtain ⟨b302, off303, hA304, hC305⟩ := h301.el (fun _ => rfl) (idx_get h297)
        refine OKS.r rfl rfl rfl rfl (fun _ => Runs.iaN rfl f291 hA304 fi285 Try.runUnderlying23 Try.sizeOf3 (idx_lt h297)) ?_
        refine OKS.m rfl rfl rfl rfl (hS288.ldC (f := 0) hC305 (v := .int .i64 x296) rfl rfl Try.isAgg3 rfl) rfl ?_
        refine OKS.r rfl rfl rfl rfl (fun _ => Runs.as rfl rfl) ?_
        refine OKS.r rfl rfl rfl rfl (fun _ => Runs.as rfl rfl) ?_
        refine OKS.e ?_
        refine thenQ_n ?_
        refine CK.reg (ks := []) (.fl 0 (.fl 1 (.fl 2 (.fl 3 (.fl 4 (.fl 5 (.fl 6 (.fl 7 (.fl 8 (.fx 9 (.fl 10 (.fx 11 (.fx 12 (.fl 13 (.nil)) .stop) .stop)) .stop)))))))))) rfl ?_
        refine OKS.r rfl rfl rfl rfl (fun _ => Runs.mv rfl f290) ?_
        refine OKS.r rfl rfl rfl rfl (fun _ => Runs.mv rfl rfl) ?_
        refine OKS.r rfl rfl rfl rfl (fun _ => Runs.build (pv := [(0, .int .i64 4), (1, .int .i64 (↑k273 : Int))]) (z := [.int .i64 0, .int .i64 0]) (cs := [.int .i64 4, .int .i64 (↑k273 : Int)]) rfl (mapcons2 rfl (mapcons2 rfl mapnil2)) Try.zeroValue114 places114 rfl rfl) ?_
        refine OKS.r rfl rfl rfl rfl (fun _ => Runs.mv rfl rfl) ?_
        refine OKS.r rfl rfl rfl rfl (fun _ => Runs.to (Runs.addw rfl rfl rfl) (congrArg (Value.int .i64) hi295.out)) ?_
        refine OKS.r rfl rfl rfl rfl (fun _ => Runs.mv rfl rfl) ?_
        refine OKS.r rfl rfl rfl rfl (fun _ => Runs.mv rfl f289) ?_
        refine OKS.r rfl rfl rfl rfl (fun _ => Runs.mv rfl rfl) ?_
        refine OKS.r rfl rfl rfl rfl (fun _ => Runs.negw rfl rfl) ?_
        obtain ⟨x306, h307, hm308⟩ := bnd hm298
        refine OKS.callH 0 rfl rfl rfl rfl (Enters.mk rfl rfl Try.call126 (mapcons rfl mapnil) rfl) hS288 (fun hs => w_target_links_1 (w64 (-x296)) W280 φ286 hs h307) (.inr rfl) ?_
        rintro φ309 L310 v311 W312 le313 hS314 ⟨_, rfl, h315⟩
        have hS316 : St ⟨w, [], φ⟩ φ309 [.row A270 c271 189 5 cs272] W312 := hS314
        obtain ⟨fid317, fst318, cap319, he320, _⟩ := id h315
        subst he320
        refine OKS.r rfl rfl rfl rfl (fun _ => Runs.build (pv := [(0, .agg #[.int .i64 4, .int .i64 (↑k273 : Int)]), (1, .int .i64 (↑(k273 + 1) : Int)), (2, .int .i64 (↑k273 : Int)), (3, (.func (.func fid317) (List.toArray fst318) (List.toArray cap319)))]) (z := [.int .i64 0, .int .i64 0, .int .i64 0, .int .i64 0, .nilFunc]) (cs := [.int .i64 4, .int .i64 (↑k273 : Int), .int .i64 (↑(k273 + 1) : Int), .int .i64 (↑k273 : Int), (.func (.func fid317) (List.toArray fst318) (List.toArray cap319))]) rfl (mapcons2 rfl (mapcons2 rfl (mapcons2 rfl (mapcons2 rfl mapnil2)))) Try.zeroValue189 places189 rfl rfl) ?_
        refine OKS.buildSlice (pv := [(0, .agg #[.int .i64 4, .int .i64 (↑k273 : Int), .int .i64 (↑(k273 + 1) : Int), .int .i64 (↑k273 : Int), (.func (.func fid317) (List.toArray fst318) (List.toArray cap319))])]) (zs := [.int .i64 0, .int .i64 0, .int .i64 0, .int .i64 0, .nilFunc]) (cs := [.int .i64 4, .int .i64 (↑k273 : Int), .int .i64 (↑(k273 + 1) : Int), .int .i64 (↑k273 : Int), (.func (.func fid317) (List.toArray fst318) (List.toArray cap319))]) rfl rfl rfl rfl rfl (mapcons2 rfl mapnil2) Try.runUnderlying142 Try.sizeOf189 Try.zeroValue189 rfl rfl rfl rfl rfl hS316 ?_
        intro W321 b322 hS323
        have hr325 : RlL φ309 rl189 [(⟨(⟨4, (↑k273 : Int)⟩ : T_target_Step), (↑(k273 + 1) : Int), (↑k273 : Int), x306⟩ : T_target_link)] [.int .i64 4, .int .i64 (↑k273 : Int), .int .i64 (↑(k273 + 1) : Int), .int .i64 (↑k273 : Int), (.func (.func fid317) (List.toArray fst318) (List.toArray cap319))] := (RlL.cons (R := rl189) (x := (⟨(⟨4, (↑k273 : Int)⟩ : T_target_Step), (↑(k273 + 1) : Int), (↑k273 : Int), x306⟩ : T_target_link)) (vs := [.int .i64 4, .int .i64 (↑k273 : Int), .int .i64 (↑(k273 + 1) : Int), .int .i64 (↑k273 : Int), (.func (.func fid317) (List.toArray fst318) (List.toArray cap319))]) ⟨(.func (.func fid317) (List.toArray fst318) (List.toArray cap319)), rfl, h315⟩ RlL.nil)
        have hS326 : St ⟨w, [], φ⟩ φ309 [.row (some ⟨b322, 0, none⟩) 1 189 5 [.int .i64 4, .int .i64 (↑k273 : Int), .int .i64 (↑(k273 + 1) : Int), .int .i64 (↑k273 : Int), (.func (.func fid317) (List.toArray fst318) (List.toArray cap319))], .row A270 c271 189 5 cs272] W321 := hS323
        obtain ⟨x327, h328, hm329⟩ := bnd hm308
        have h336 := h293.le le313
        refine OKS.appendR (R := rl189) (j := 1) (xs := l269) (ys := [(⟨(⟨4, (↑k273 : Int)⟩ : T_target_Step), (↑(k273 + 1) : Int), (↑k273 : Int), x306⟩ : T_target_link)]) (zs := x327) rfl rfl rfl rfl rfl Try.underlying142 info189 rfl rfl rfl rfl rfl rfl rfl hS326 rfl rfl rfl h336 hr325 (hS326.srcR (j := 0) rfl (by decide) (RlL.len hr325)) h328 rfl ?_
        intro A330 c331 cs332 W333 hS334 hr335
        have hS337 : St ⟨w, [], φ⟩ φ309 [.row (some ⟨b322, 0, none⟩) 1 189 5 [.int .i64 4, .int .i64 (↑k273 : Int), .int .i64 (↑(k273 + 1) : Int), .int .i64 (↑k273 : Int), (.func (.func fid317) (List.toArray fst318) (List.toArray cap319))], .row A330 c331 189 5 cs332] W333 := hS334
        refine OKS.r rfl rfl rfl rfl (fun _ => Runs.as rfl rfl) ?_
        refine OKS.e ?_
        refine blockQ_n ?_
        refine thenQ_n ?_
        refine CK.reg (ks := []) (.fl 0 (.fl 1 (.nil))) rfl ?_
        refine OKS.r rfl rfl rfl rfl (fun _ => Runs.to (Runs.addw rfl fi285 rfl) (congrArg (Value.int .i64) hi295.out)) ?_
        refine OKS.r rfl rfl rfl rfl (fun _ => Runs.mv rfl rfl) ?_
        refine OKS.e ?_
        cases hm329
        exact thenQ_n ⟨rfl, ⟨φ309, A330, c331, cs332, rfl, f289, rfl, f291, f292, (le287.trans le313), (hS337.pick [1] _ (by decide) rfl), hr335⟩⟩
      · rintro σ342 W343 ⟨φ353, A350, c351, c352, fi345, f356, f357, f358, f359, le354, hS355, h360⟩
        have c361 : Hid (¬ ((↑(((↑p2.length : Int) : Int) - 0).toNat : Int) < (↑p2.length : Int))) := Hid.mk (lp_end0)
        refine CK.seq ?_
        refine CK.reg (ks := []) (.fl 0 (.nil)) rfl ?_
        refine OKS.r rfl rfl rfl rfl (fun _ => Runs.lss rfl fi345 f359) ?_
        refine OKS.e ?_
        refine thenQ_n ?_
        refine CK.seq ?_
        refine CK.condF (decF c361.out) ?_
        refine CK.exit ?_
        refine thenQ_e ?_
        refine thenQ_e ?_
        refine blockQ_h ?_
        refine thenQ_n ?_
        refine CK.seq ?_
        refine CK.reg (ks := []) (.fl 0 (.fl 1 (.nil))) rfl ?_
        refine OKS.r rfl rfl rfl rfl (fun _ => Runs.mv rfl f357) ?_
        refine OKS.r rfl rfl rfl rfl (fun _ => Runs.as rfl rfl) ?_
        refine OKS.e ?_
        refine thenQ_n ?_
        refine CK.ret ?_
        cases hm274
        exact ⟨rfl, _, (res1 rfl), φ353, _, hS355, A350, c351, c352, rfl, rfl, h360⟩

set_option maxHeartbeats 4000000 in
theorem w_target_distances (p0 : Int) (p1 : List T_target_link) (pA1 : Option Addr) (pc1 : Nat) (w : World) (φ : PHeap) (hS : St ⟨w, [], φ⟩ φ [] w) (ha0 : SlR φ rl189 pA1 pc1 p1) {r : (Arr Int 81) × Bool} (hm : m_target_distances p0 p1 = some r) : Gv Try.prog 76 [.int .i64 p0, .slice pA1 p1.length pc1] w (RetS w [] φ (fun φ_ L_ v => v = .tuple #[.agg (List.flatMap encI r.1.l).toArray, .bool r.2] ∧ L_ = [])) := by
  unfold m_target_distances at hm
  refine Gv.of Try.func76 rfl Try.ntmps76 Try.results76 rfl ?_
  refine CK.seq ?_
  refine CK.reg (ks := []) (.fx 0 (.fl 1 (.nil)) .stop) rfl ?_
  refine OKS.alloc (cs := List.flatMap encI (Arr.fill 81 0).l) rfl rfl rfl rfl rfl Try.zeroValue136 rfl hS ?_
  intro W1 b2 hS3
  have hS5 : St ⟨w, [], φ⟩ φ [.blk b2 136 (List.flatMap encI (Arr.fill 81 0).l)] W1 := hS3
  refine OKS.r rfl rfl rfl rfl (fun _ => Runs.as rfl rfl) ?_
  refine OKS.e ?_
  refine thenQ_n ?_
  refine CK.seq ?_
  refine CK.reg (ks := []) (.fx 0 (.nil) .stop) rfl ?_
  refine OKS.alloc (cs := List.flatMap encI (Arr.fill 81 0).l) rfl rfl rfl rfl rfl Try.zeroValue136 rfl hS5 ?_
  intro W6 b7 hS8
  have hS10 : St ⟨w, [], φ⟩ φ [.blk b7 136 (List.flatMap encI (Arr.fill 81 0).l), .blk b2 136 (List.flatMap encI (Arr.fill 81 0).l)] W6 := hS8
  refine OKS.e ?_
  refine thenQ_n ?_
  refine CK.seq ?_
  refine CK.seq ?_
  refine CK.reg (ks := []) (.fl 0 (.nil)) rfl ?_
  refine OKS.r rfl rfl rfl rfl (fun _ => Runs.mv rfl rfl) ?_
  refine OKS.e ?_
  refine thenQ_n ?_
  refine CK.block ?_
  obtain ⟨y22, hf19, hm18⟩ := bnd hm
  obtain ⟨hle20, hf21⟩ := forR'_le hf19
  replace hle20 := Hid.mk hle20
  refine CK.forN' (fun k17 a16 σ_ w_ => ∃ (φ_ : PHeap), σ_ 15 = .int .i64 (↑k17 : Int) ∧ σ_ 0 = .int .i64 p0 ∧ σ_ 1 = .slice pA1 p1.length pc1 ∧ σ_ 4 = .pointer (some ⟨b2, 0, none⟩) ∧ σ_ 6 = .pointer (some ⟨b7, 0, none⟩) ∧ PHeap.Le φ φ_ ∧ St ⟨w, [], φ⟩ φ_ [.blk b7 136 (List.flatMap encI a16.l), .blk b2 136 (List.flatMap encI (Arr.fill 81 0).l)] w_) hf21 ?_ ?_ ?_
  · exact ⟨φ, rfl, rfl, rfl, rfl, rfl, (PHeap.Le.refl _), hS10⟩
  · rintro k17 a16 xx25 σ23 W24 hk28 ⟨φ30, fi29, f33, f34, f35, f36, le31, hS32⟩ hx26
    have c37 : Hid ((↑k17 : Int) < 9) := Hid.mk (lp_lt0 hk28)
    replace hk28 := Hid.mk hk28
    have hi38 : Hid (w64 ((↑k17 : Int) + 1) = (↑(k17 + 1) : Int)) := Hid.mk (by have h1 := hle20.out; have h2 := c37.out; rw [w64_in] <;> omega)
    refine CK.seq ?_
    refine CK.reg (ks := []) (.fl 0 (.nil)) rfl ?_
    refine OKS.r rfl rfl rfl rfl (fun _ => Runs.lss rfl fi29 rfl) ?_
    refine OKS.e ?_
    refine thenQ_n ?_
    refine CK.seq ?_
    refine CK.condT (decT c37.out) ?_
    refine CK.skip ?_
    refine thenQ_n ?_
    refine CK.seq ?_
    refine CK.block ?_
    refine CK.seq ?_
    refine CK.reg (ks := []) (.fl 0 (.fl 1 (.nil))) rfl ?_
    refine OKS.r rfl rfl rfl rfl (fun _ => Runs.mv rfl fi29) ?_
    refine OKS.r rfl rfl rfl rfl (fun _ => Runs.as rfl rfl) ?_
    refine OKS.e ?_
    refine thenQ_n ?_
    refine CK.seq ?_
    refine CK.reg (ks := []) (.fl 0 (.nil)) rfl ?_
    refine OKS.r rfl rfl rfl rfl (fun _ => Runs.mv rfl rfl) ?_
    refine OKS.e ?_
    refine thenQ_n ?_
    refine CK.block ?_
    obtain ⟨y50, hf47, hm46⟩ := bnd hx26
    obtain ⟨hle48, hf49⟩ := forR'_le hf47
    replace hle48 := Hid.mk hle48
    refine CK.forN' (fun k45 a44 σ_ w_ => ∃ (φ_ : PHeap), σ_ 18 = .int .i64 (↑k45 : Int) ∧ σ_ 0 = .int .i64 p0 ∧ σ_ 1 = .slice pA1 p1.length pc1 ∧ σ_ 4 = .pointer (some ⟨b2, 0, none⟩) ∧ σ_ 6 = .pointer (some ⟨b7, 0, none⟩) ∧ σ_ 7 = .int .i64 (↑k17 : Int) ∧ σ_ 15 = .int .i64 (↑k17 : Int) ∧ PHeap.Le φ30 φ_ ∧ St ⟨w, [], φ⟩ φ_ [.blk b7 136 (List.flatMap encI a44.l), .blk b2 136 (List.flatMap encI (Arr.fill 81 0).l)] w_) hf49 ?_ ?_ ?_
    · exact ⟨φ30, rfl, f33, f34, f35, f36, rfl, fi29, (PHeap.Le.refl _), hS32⟩
    · rintro k45 a44 xx53 σ51 W52 hk56 ⟨φ58, fi57, f61, f62, f63, f64, f65, f66, le59, hS60⟩ hx54
      have c67 : Hid ((↑k45 : Int) < 9) := Hid.mk (lp_lt0 hk56)
      replace hk56 := Hid.mk hk56
      have hi68 : Hid (w64 ((↑k45 : Int) + 1) = (↑(k45 + 1) : Int)) := Hid.mk (by have h1 := hle48.out; have h2 := c67.out; rw [w64_in] <;> omega)
      refine CK.seq ?_
      refine CK.reg (ks := []) (.fl 0 (.nil)) rfl ?_
      refine OKS.r rfl rfl rfl rfl (fun _ => Runs.lss rfl fi57 rfl) ?_
      refine OKS.e ?_
      refine thenQ_n ?_
      refine CK.seq ?_
      refine CK.condT (decT c67.out) ?_
      refine CK.skip ?_
      refine thenQ_n ?_
      refine CK.seq ?_
      refine CK.block ?_
      refine CK.seq ?_
      refine CK.reg (ks := []) (.fl 0 (.fl 1 (.nil))) rfl ?_
      refine OKS.r rfl rfl rfl rfl (fun _ => Runs.mv rfl fi57) ?_
      refine OKS.r rfl rfl rfl rfl (fun _ => Runs.as rfl rfl) ?_
      refine OKS.e ?_
      refine thenQ_n ?_
      refine CK.seq ?_
      refine CK.reg (ks := []) (.fl 0 (.fl 1 (.fl 2 (.nil)))) rfl ?_
      refine OKS.r rfl rfl rfl rfl (fun _ => Runs.mv rfl f65) ?_
      refine OKS.r rfl rfl rfl rfl (fun _ => Runs.mv rfl rfl) ?_
      refine OKS.r rfl rfl rfl rfl (fun _ => Runs.neq rfl rfl rfl) ?_
      refine OKS.e ?_
      refine thenQ_n ?_
      by_cases c69 : (↑k17 : Int) = (↑k45 : Int)
      · have hm70 := hx54; rw [if_pos c69] at hm70; replace c69 := Hid.mk c69
        refine CK.condF (decF (fun h => h c69.out)) ?_
        refine CK.skip ?_
        refine blockQ_n ?_
        refine thenQ_n ?_
        refine CK.reg (ks := []) (.fl 0 (.fl 1 (.nil))) rfl ?_
        refine OKS.r rfl rfl rfl rfl (fun _ => Runs.to (Runs.addw rfl fi57 rfl) (congrArg (Value.int .i64) hi68.out)) ?_
        refine OKS.r rfl rfl rfl rfl (fun _ => Runs.mv rfl rfl) ?_
        refine OKS.e ?_
        cases hm70
        exact thenQ_n ⟨rfl, ⟨φ58, rfl, f61, f62, f63, f64, f65, f66, le59, hS60⟩⟩
      · have hm72 := hx54; rw [if_neg c69] at hm72; replace c69 := Hid.mk c69
        refine CK.condT (decT c69.out) ?_
        refine CK.reg (ks := []) (.fl 0 (.fl 1 (.fl 2 (.fl 3 (.fx 4 (.nil) .stop))))) rfl ?_
        refine OKS.r rfl rfl rfl rfl (fun _ => Runs.mv rfl f65) ?_
        refine OKS.r rfl rfl rfl rfl (fun _ => Runs.mv rfl rfl) ?_
        obtain ⟨_, h73, hm74⟩ := bnd hm72
        refine OKS.r rfl rfl rfl rfl (fun _ => Runs.iaA rfl f64 rfl Try.runUnderlying136 Try.sizeOf135 (chk_lo h73) (chk_hi h73)) ?_
        obtain ⟨_, h75, hm76⟩ := bnd hm74
        refine OKS.r rfl rfl rfl rfl (fun _ => Runs.iaA rfl rfl rfl Try.runUnderlying135 Try.sizeOf3 (chk_lo h75) (chk_hi h75)) ?_
        have hg77 := Arr.at_ a44 (k := (k17 * 9 + k45)) (by have hz0 := chk_lt h73; have hz1 := chk_lt h75; omega)
        refine OKS.st (j := 0) (vs := [.int .i64 1048576]) (cs' := List.flatMap encI (a44.set (k17 * 9 + k45) 1048576).l) rfl rfl rfl rfl hS60 rfl rfl rfl rfl Try.sizeOf3 (by have hz0 := chk_lt h73; have hz1 := chk_lt h75; simp only [List.length_append, List.length_cons, List.length_nil, whole_len (f := encI) (sz := 1) (N := 81) a44 (fun _ => rfl) rfl]; omega) rfl (setN_at (sz := 1) (fo := 0) (fun _ => rfl) _ _ _ _ hg77 (by omega) (Nat.le_of_ble_eq_true rfl) rfl) rfl ?_
        intro W78 hS79
        have hS80 : St ⟨w, [], φ⟩ φ58 [.blk b7 136 (List.flatMap encI (a44.set (k17 * 9 + k45) 1048576).l), .blk b2 136 (List.flatMap encI (Arr.fill 81 0).l)] W78 := hS79
        refine OKS.e ?_
        refine blockQ_n ?_
        refine thenQ_n ?_
        refine CK.reg (ks := []) (.fl 0 (.fl 1 (.nil))) rfl ?_
        refine OKS.r rfl rfl rfl rfl (fun _ => Runs.to (Runs.addw rfl fi57 rfl) (congrArg (Value.int .i64) hi68.out)) ?_
        refine OKS.r rfl rfl rfl rfl (fun _ => Runs.mv rfl rfl) ?_
        refine OKS.e ?_
        cases hm76
        exact thenQ_n ⟨rfl, ⟨φ58, rfl, f61, f62, f63, f64, f65, f66, le59, hS80⟩⟩
    · rintro σ82 W83 ⟨φ87, fi85, f90, f91, f92, f93, f94, f95, le88, hS89⟩
      have c96 : Hid (¬ ((↑((9 : Int) - 0).toNat : Int) < 9)) := Hid.mk (lp_end0)
      refine CK.seq ?_
      refine CK.reg (ks := []) (.fl 0 (.nil)) rfl ?_
      refine OKS.r rfl rfl rfl rfl (fun _ => Runs.lss rfl fi85 rfl) ?_
      refine OKS.e ?_
      refine thenQ_n ?_
      refine CK.seq ?_
      refine CK.condF (decF c96.out) ?_
      refine CK.exit ?_
      refine thenQ_e ?_
      refine thenQ_e ?_
      refine blockQ_h ?_
      refine blockQ_n ?_
      refine thenQ_n ?_
      refine CK.reg (ks := []) (.fl 0 (.fl 1 (.nil))) rfl ?_
      refine OKS.r rfl rfl rfl rfl (fun _ => Runs.to (Runs.addw rfl f95 rfl) (congrArg (Value.int .i64) hi38.out)) ?_
      refine OKS.r rfl rfl rfl rfl (fun _ => Runs.mv rfl rfl) ?_
      refine OKS.e ?_
      cases hm46
      exact thenQ_n ⟨rfl, ⟨φ87, rfl, f90, f91, f92, f93, (le31.trans le88), hS89⟩⟩
  · rintro σ98 W99 ⟨φ103, fi101, f106, f107, f108, f109, le104, hS105⟩
    have c110 : Hid (¬ ((↑((9 : Int) - 0).toNat : Int) < 9)) := Hid.mk (lp_end0)
    refine CK.seq ?_
    refine CK.reg (ks := []) (.fl 0 (.nil)) rfl ?_
    refine OKS.r rfl rfl rfl rfl (fun _ => Runs.lss rfl fi101 rfl) ?_
    refine OKS.e ?_
    refine thenQ_n ?_
    refine CK.seq ?_
    refine CK.condF (decF c110.out) ?_
    refine CK.exit ?_
    refine thenQ_e ?_
    refine thenQ_e ?_
    refine blockQ_h ?_
    refine thenQ_n ?_
    refine CK.seq ?_
    refine CK.seq ?_
    refine CK.reg (ks := []) (.fl 0 (.fl 1 (.fl 2 (.nil)))) rfl ?_
    refine OKS.r rfl rfl rfl rfl (fun _ => Runs.mv rfl f107) ?_
    refine OKS.r rfl rfl rfl rfl (fun _ => Runs.len rfl rfl Try.runUnderlying142) ?_
    refine OKS.r rfl rfl rfl rfl (fun _ => Runs.mv rfl rfl) ?_
    refine OKS.e ?_
    refine thenQ_n ?_
    refine CK.block ?_
    obtain ⟨y122, hf119, hm118⟩ := bnd hm18
    obtain ⟨hle120, hf121⟩ := forR'_le hf119
    replace hle120 := Hid.mk hle120
    refine CK.forN' (fun k117 a116 σ_ w_ => ∃ (φ_ : PHeap), σ_ 32 = .int .i64 (↑k117 : Int) ∧ σ_ 0 = .int .i64 p0 ∧ σ_ 4 = .pointer (some ⟨b2, 0, none⟩) ∧ σ_ 6 = .pointer (some ⟨b7, 0, none⟩) ∧ σ_ 30 = .slice pA1 p1.length pc1 ∧ σ_ 31 = .int .i64 (↑p1.length : Int) ∧ PHeap.Le φ103 φ_ ∧ St ⟨w, [], φ⟩ φ_ [.blk b7 136 (List.flatMap encI a116.l), .blk b2 136 (List.flatMap encI (Arr.fill 81 0).l)] w_) hf121 ?_ ?_ ?_
    · exact ⟨φ103, rfl, f106, f108, f109, rfl, rfl, (PHeap.Le.refl _), hS105⟩
    · rintro k117 a116 xx125 σ123 W124 hk128 ⟨φ130, fi129, f133, f134, f135, f136, f137, le131, hS132⟩ hx126
      have c138 : Hid ((↑k117 : Int) < (↑p1.length : Int)) := Hid.mk (lp_lt0 hk128)
      replace hk128 := Hid.mk hk128
      have hi139 : Hid (w64 ((↑k117 : Int) + 1) = (↑(k117 + 1) : Int)) := Hid.mk (by have h1 := hle120.out; have h2 := c138.out; rw [w64_in] <;> omega)
      refine CK.seq ?_
      refine CK.reg (ks := []) (.fl 0 (.nil)) rfl ?_
      refine OKS.r rfl rfl rfl rfl (fun _ => Runs.lss rfl fi129 f137) ?_
      refine OKS.e ?_
      refine thenQ_n ?_
      refine CK.seq ?_
      refine CK.condT (decT c138.out) ?_
      refine CK.skip ?_
      refine thenQ_n ?_
      refine CK.seq ?_
      refine CK.block ?_
      refine CK.seq ?_
      refine CK.reg (ks := []) (.fl 0 (.fl 1 (.fx 2 (.fx 3 (.nil) .stop) .stop))) rfl ?_
      obtain ⟨x140, h141, hm142⟩ := bnd hx126
      have h143 := ha0.le le104
      have h144 := h143.le le131
      obtain ⟨b145, off146, vs149, hA147, hC148, hr150⟩ := h144.el (idx_get h141)
      obtain ⟨pv151, rfl, h152⟩ := hr150
      replace hC148 : Cl φ130 b145 (off146 + k117 * 5) [.int .i64 x140.Step.Kind, .int .i64 x140.Step.Index, .int .i64 x140.from_, .int .i64 x140.to_, pv151] := hC148
      refine OKS.r rfl rfl rfl rfl (fun _ => Runs.iaN rfl f136 hA147 fi129 Try.runUnderlying142 Try.sizeOf189 (idx_lt h141)) ?_
      refine OKS.m rfl rfl rfl rfl (hS132.ldCA (f := 0) hC148 rfl rfl Try.isAgg189 Try.sizeOf189 (us := [.int .i64 x140.Step.Kind, .int .i64 x140.Step.Index, .int .i64 x140.from_, .int .i64 x140.to_, pv151]) rfl rfl) rfl ?_
      refine OKS.alloc (cs := [.int .i64 0, .int .i64 0, .int .i64 0, .int .i64 0, .nilFunc]) rfl rfl rfl rfl rfl Try.zeroValue189 rfl hS132 ?_
      intro W153 b154 hS155
      obtain ⟨fid157, fst158, cap159, he160, _⟩ := id h152
      subst he160
      refine OKS.st (j := 0) (vs := [.int .i64 x140.Step.Kind, .int .i64 x140.Step.Index, .int .i64 x140.from_, .int .i64 x140.to_, (.func (.func fid157) (List.toArray fst158) (List.toArray cap159))]) rfl rfl rfl rfl hS155 rfl rfl rfl rfl Try.sizeOf189 (Nat.le_of_ble_eq_true rfl) rfl rfl rfl ?_
      intro W161 hS162
      have hS163 : St ⟨w, [], φ⟩ φ130 [.blk b154 189 [.int .i64 x140.Step.Kind, .int .i64 x140.Step.Index, .int .i64 x140.from_, .int .i64 x140.to_, (.func (.func fid157) (List.toArray fst158) (List.toArray cap159))], .blk b7 136 (List.flatMap encI a116.l), .blk b2 136 (List.flatMap encI (Arr.fill 81 0).l)] W161 := hS162
      refine OKS.e ?_
      refine thenQ_n ?_
      refine CK.anyOrd Try.mixed [3, 1, 3, 1, 3, 1, 3, 1, 3, 3, 1, 3, 1, 2, 3, 3, 3, 0] (.fl 0 (.fl 1 (.fl 2 (.fl 3 (.fl 4 (.fl 5 (.fl 6 (.fl 7 (.fl 8 (.fl 9 (.fl 10 (.fl 11 (.fl 12 (.fl 15 (.fx 13 (.fl 14 (.fl 16 (.fx 17 (.nil) .stop))) .stop))))))))))))))) (by kernel_rfl) ?_
      have hS164 := hS163.drew
      generalize hw_W165 : ({ W161 with drawn := W161.drawn + 1 } : World) = W165 at hS164 ⊢
      refine OKS.r rfl rfl rfl rfl (fun _ => Runs.fa rfl rfl Try.runUnderlying189 rfl Try.sizeOf3) ?_
      refine OKS.m rfl rfl rfl rfl (hS164.ldB (j := 0) rfl rfl rfl Try.isAgg3 (v := .int .i64 x140.from_) rfl) rfl ?_
      refine OKS.r rfl rfl rfl rfl (fun _ => Runs.fa rfl rfl Try.runUnderlying189 rfl Try.sizeOf3) ?_
      refine OKS.m rfl rfl rfl rfl (hS164.ldB (j := 0) rfl rfl rfl Try.isAgg3 (v := .int .i64 x140.to_) rfl) rfl ?_
      refine OKS.r rfl rfl rfl rfl (fun _ => Runs.fa rfl rfl Try.runUnderlying189 rfl Try.sizeOf3) ?_
      refine OKS.m rfl rfl rfl rfl (hS164.ldB (j := 0) rfl rfl rfl Try.isAgg3 (v := .int .i64 x140.from_) rfl) rfl ?_
      refine OKS.r rfl rfl rfl rfl (fun _ => Runs.fa rfl rfl Try.runUnderlying189 rfl Try.sizeOf3) ?_
      refine OKS.m rfl rfl rfl rfl (hS164.ldB (j := 0) rfl rfl rfl Try.isAgg3 (v := .int .i64 x140.to_) rfl) rfl ?_
      obtain ⟨_, h166, hm167⟩ := bnd hm142
      refine OKS.r rfl rfl rfl rfl (fun _ => Runs.iaA rfl f135 rfl Try.runUnderlying136 Try.sizeOf135 (chk_lo h166) (chk_hi h166)) ?_
      obtain ⟨_, h168, hm169⟩ := bnd hm167
      refine OKS.r rfl rfl rfl rfl (fun _ => Runs.iaA rfl rfl rfl Try.runUnderlying135 Try.sizeOf3 (chk_lo h168) (chk_hi h168)) ?_
      have hg170 := Arr.at_ a116 (k := (x140.from_.toNat * 9 + x140.to_.toNat)) (by have hz0 := chk_lt h166; have hz1 := chk_lt h168; omega)
      refine OKS.m rfl rfl rfl rfl (hS164.ldB (j := 1) rfl rfl rfl Try.isAgg3 (flatMap_cell (sz := 1) (fun _ => rfl) _ _ 0 _ hg170 (by omega) rfl)) rfl ?_
      refine OKS.r rfl rfl rfl rfl (fun _ => Runs.fa rfl rfl Try.runUnderlying189 rfl Try.sizeOf187) ?_
      refine OKS.m rfl rfl rfl rfl (hS164.ldB (j := 0) rfl rfl rfl Try.isAgg187 (v := (.func (.func fid157) (List.toArray fst158) (List.toArray cap159))) rfl) rfl ?_
      refine OKS.r rfl rfl rfl rfl (fun _ => Runs.iaA rfl f135 rfl Try.runUnderlying136 Try.sizeOf135 (chk_lo h166) (chk_hi h166)) ?_
      obtain ⟨x171, h172, hm173⟩ := bnd hm169
      refine OKS.callV (a := ()) rfl rfl rfl rfl rfl rfl mapnil hS164 h152 rfl h172 ?_
      rintro φ174 L175 v176 W177 le178 hS179 ⟨rfl, rfl⟩
      have hS180 : St ⟨w, [], φ⟩ φ174 [.blk b154 189 [.int .i64 x140.Step.Kind, .int .i64 x140.Step.Index, .int .i64 x140.from_, .int .i64 x140.to_, (.func (.func fid157) (List.toArray fst158) (List.toArray cap159))], .blk b7 136 (List.flatMap encI a116.l), .blk b2 136 (List.flatMap encI (Arr.fill 81 0).l)] W177 := hS179
      refine OKS.r rfl rfl rfl rfl (fun _ => Runs.min rfl rfl rfl) ?_
      refine OKS.r rfl rfl rfl rfl (fun _ => Runs.iaA rfl rfl rfl Try.runUnderlying135 Try.sizeOf3 (chk_lo h168) (chk_hi h168)) ?_
      have hg181 := Arr.at_ a116 (k := (x140.from_.toNat * 9 + x140.to_.toNat)) (by have hz0 := chk_lt h166; have hz1 := chk_lt h168; omega)
      refine OKS.st (j := 1) (vs := [.int .i64 (min (a116.get (x140.from_.toNat * 9 + x140.to_.toNat)) x171)]) (cs' := List.flatMap encI (a116.set (x140.from_.toNat * 9 + x140.to_.toNat) (min (a116.get (x140.from_.toNat * 9 + x140.to_.toNat)) x171)).l) rfl rfl rfl rfl hS180 rfl rfl rfl rfl Try.sizeOf3 (by have hz0 := chk_lt h166; have hz1 := chk_lt h168; simp only [List.length_append, List.length_cons, List.length_nil, whole_len (f := encI) (sz := 1) (N := 81) a116 (fun _ => rfl) rfl]; omega) rfl (setN_at (sz := 1) (fo := 0) (fun _ => rfl) _ _ _ _ hg181 (by omega) (Nat.le_of_ble_eq_true rfl) rfl) rfl ?_
      intro W182 hS183
      have hS184 : St ⟨w, [], φ⟩ φ174 [.blk b154 189 [.int .i64 x140.Step.Kind, .int .i64 x140.Step.Index, .int .i64 x140.from_, .int .i64 x140.to_, (.func (.func fid157) (List.toArray fst158) (List.toArray cap159))], .blk b7 136 (List.flatMap encI (a116.set (x140.from_.toNat * 9 + x140.to_.toNat) (min (a116.get (x140.from_.toNat * 9 + x140.to_.toNat)) x171)).l), .blk b2 136 (List.flatMap encI (Arr.fill 81 0).l)] W182 := hS183
      refine OKS.e ?_
      refine blockQ_n ?_
      refine thenQ_n ?_
      refine CK.reg (ks := []) (.fl 0 (.fl 1 (.nil))) rfl ?_
      refine OKS.r rfl rfl rfl rfl (fun _ => Runs.to (Runs.addw rfl fi129 rfl) (congrArg (Value.int .i64) hi139.out)) ?_
      refine OKS.r rfl rfl rfl rfl (fun _ => Runs.mv rfl rfl) ?_
      refine OKS.e ?_
      cases hm173
      exact thenQ_n ⟨rfl, ⟨φ174, rfl, f133, f134, f135, f136, f137, (le131.trans le178), (hS184.pick [1, 2] _ (by decide) rfl)⟩⟩
    · rintro σ186 W187 ⟨φ191, fi189, f194, f195, f196, f197, f198, le192, hS193⟩
      have c199 : Hid (¬ ((↑(((↑p1.length : Int) : Int) - 0).toNat : Int) < (↑p1.length : Int))) := Hid.mk (lp_end0)
      refine CK.seq ?_
      refine CK.reg (ks := []) (.fl 0 (.nil)) rfl ?_
      refine OKS.r rfl rfl rfl rfl (fun _ => Runs.lss rfl fi189 f198) ?_
      refine OKS.e ?_
      refine thenQ_n ?_
      refine CK.seq ?_
      refine CK.condF (decF c199.out) ?_
      refine CK.exit ?_
      refine thenQ_e ?_
      refine thenQ_e ?_
      refine blockQ_h ?_
      refine thenQ_n ?_
      refine CK.seq ?_
      refine CK.seq ?_
      refine CK.reg (ks := []) (.fl 0 (.fl 1 (.fl 2 (.nil)))) rfl ?_
      refine OKS.r rfl rfl rfl rfl (fun _ => Runs.mv rfl f194) ?_
      refine OKS.r rfl rfl rfl rfl (fun _ => Runs.addw rfl rfl rfl) ?_
      refine OKS.r rfl rfl rfl rfl (fun _ => Runs.mv rfl rfl) ?_
      refine OKS.e ?_
      refine thenQ_n ?_
      refine CK.block ?_
      obtain ⟨y211, hf208, hm207⟩ := bnd hm118
      obtain ⟨hle209, hf210⟩ := forR'_le hf208
      replace hle209 := Hid.mk hle209
      refine CK.forN' (fun k206 a205 σ_ w_ => ∃ (φ_ : PHeap), σ_ 56 = .int .i64 (↑k206 : Int) ∧ σ_ 0 = .int .i64 p0 ∧ σ_ 4 = .pointer (some ⟨b2, 0, none⟩) ∧ σ_ 6 = .pointer (some ⟨b7, 0, none⟩) ∧ σ_ 55 = .int .i64 (w64 (p0 + 1)) ∧ PHeap.Le φ191 φ_ ∧ St ⟨w, [], φ⟩ φ_ [.blk b7 136 (List.flatMap encI a205.l), .blk b2 136 (List.flatMap encI (Arr.fill 81 0).l)] w_) hf210 ?_ ?_ ?_
      · exact ⟨φ191, rfl, f194, f195, f196, rfl, (PHeap.Le.refl _), hS193⟩
      · rintro k206 a205 xx214 σ212 W213 hk217 ⟨φ219, fi218, f222, f223, f224, f225, le220, hS221⟩ hx215
        have c226 : Hid ((↑k206 : Int) < (w64 (p0 + 1))) := Hid.mk (lp_lt0 hk217)
        replace hk217 := Hid.mk hk217
        have hi227 : Hid (w64 ((↑k206 : Int) + 1) = (↑(k206 + 1) : Int)) := Hid.mk (by have h1 := hle209.out; have h2 := c226.out; rw [w64_in] <;> omega)
        refine CK.seq ?_
        refine CK.reg (ks := []) (.fl 0 (.nil)) rfl ?_
        refine OKS.r rfl rfl rfl rfl (fun _ => Runs.lss rfl fi218 f225) ?_
        refine OKS.e ?_
        refine thenQ_n ?_
        refine CK.seq ?_
        refine CK.condT (decT c226.out) ?_
        refine CK.skip ?_
        refine thenQ_n ?_
        refine CK.seq ?_
        refine CK.block ?_
        refine CK.seq ?_
        refine CK.reg (ks := []) (.fl 0 (.fl 1 (.nil))) rfl ?_
        refine OKS.r rfl rfl rfl rfl (fun _ => Runs.mv rfl fi218) ?_
        refine OKS.r rfl rfl rfl rfl (fun _ => Runs.as rfl rfl) ?_
        refine OKS.e ?_
        refine thenQ_n ?_
        refine CK.seq ?_
        refine CK.reg (ks := []) (.fl 0 (.fl 1 (.fl 2 (.nil)))) rfl ?_
        refine OKS.r rfl rfl rfl rfl (fun _ => Runs.mv rfl f222) ?_
        refine OKS.r rfl rfl rfl rfl (fun _ => Runs.addw rfl rfl rfl) ?_
        refine OKS.r rfl rfl rfl rfl (fun _ => Runs.mv rfl rfl) ?_
        refine OKS.e ?_
        refine thenQ_n ?_
        refine CK.block ?_
        obtain ⟨y239, hf236, hm235⟩ := bnd hx215
        obtain ⟨hle237, hf238⟩ := forR'_le hf236
        replace hle237 := Hid.mk hle237
        refine CK.forN' (fun k234 a233 σ_ w_ => ∃ (φ_ : PHeap), σ_ 61 = .int .i64 (↑k234 : Int) ∧ σ_ 0 = .int .i64 p0 ∧ σ_ 4 = .pointer (some ⟨b2, 0, none⟩) ∧ σ_ 6 = .pointer (some ⟨b7, 0, none⟩) ∧ σ_ 11 = .int .i64 (↑k206 : Int) ∧ σ_ 55 = .int .i64 (w64 (p0 + 1)) ∧ σ_ 56 = .int .i64 (↑k206 : Int) ∧ σ_ 60 = .int .i64 (w64 (p0 + 1)) ∧ PHeap.Le φ219 φ_ ∧ St ⟨w, [], φ⟩ φ_ [.blk b7 136 (List.flatMap encI a233.l), .blk b2 136 (List.flatMap encI (Arr.fill 81 0).l)] w_) hf238 ?_ ?_ ?_
        · exact ⟨φ219, rfl, f222, f223, f224, rfl, f225, fi218, rfl, (PHeap.Le.refl _), hS221⟩
        · rintro k234 a233 xx242 σ240 W241 hk245 ⟨φ247, fi246, f250, f251, f252, f253, f254, f255, f256, le248, hS249⟩ hx243
          have c257 : Hid ((↑k234 : Int) < (w64 (p0 + 1))) := Hid.mk (lp_lt0 hk245)
          replace hk245 := Hid.mk hk245
          have hi258 : Hid (w64 ((↑k234 : Int) + 1) = (↑(k234 + 1) : Int)) := Hid.mk (by have h1 := hle237.out; have h2 := c257.out; rw [w64_in] <;> omega)
          refine CK.seq ?_
          refine CK.reg (ks := []) (.fl 0 (.nil)) rfl ?_
          refine OKS.r rfl rfl rfl rfl (fun _ => Runs.lss rfl fi246 f256) ?_
          refine OKS.e ?_
          refine thenQ_n ?_
          refine CK.seq ?_
          refine CK.condT (decT c257.out) ?_
          refine CK.skip ?_
          refine thenQ_n ?_
          refine CK.seq ?_
          refine CK.block ?_
          refine CK.seq ?_
          refine CK.reg (ks := []) (.fl 0 (.fl 1 (.nil))) rfl ?_
          refine OKS.r rfl rfl rfl rfl (fun _ => Runs.mv rfl fi246) ?_
          refine OKS.r rfl rfl rfl rfl (fun _ => Runs.as rfl rfl) ?_
          refine OKS.e ?_
          refine thenQ_n ?_
          refine CK.seq ?_
          refine CK.reg (ks := []) (.fl 0 (.fl 1 (.fl 2 (.nil)))) rfl ?_
          refine OKS.r rfl rfl rfl rfl (fun _ => Runs.mv rfl f250) ?_
          refine OKS.r rfl rfl rfl rfl (fun _ => Runs.addw rfl rfl rfl) ?_
          refine OKS.r rfl rfl rfl rfl (fun _ => Runs.mv rfl rfl) ?_
          refine OKS.e ?_
          refine thenQ_n ?_
          refine CK.block ?_
          obtain ⟨y270, hf267, hm266⟩ := bnd hx243
          obtain ⟨hle268, hf269⟩ := forR'_le hf267
          replace hle268 := Hid.mk hle268
          refine CK.forN' (fun k265 a264 σ_ w_ => ∃ (φ_ : PHeap), σ_ 66 = .int .i64 (↑k265 : Int) ∧ σ_ 0 = .int .i64 p0 ∧ σ_ 4 = .pointer (some ⟨b2, 0, none⟩) ∧ σ_ 6 = .pointer (some ⟨b7, 0, none⟩) ∧ σ_ 11 = .int .i64 (↑k206 : Int) ∧ σ_ 12 = .int .i64 (↑k234 : Int) ∧ σ_ 55 = .int .i64 (w64 (p0 + 1)) ∧ σ_ 56 = .int .i64 (↑k206 : Int) ∧ σ_ 60 = .int .i64 (w64 (p0 + 1)) ∧ σ_ 61 = .int .i64 (↑k234 : Int) ∧ σ_ 65 = .int .i64 (w64 (p0 + 1)) ∧ PHeap.Le φ247 φ_ ∧ St ⟨w, [], φ⟩ φ_ [.blk b7 136 (List.flatMap encI a264.l), .blk b2 136 (List.flatMap encI (Arr.fill 81 0).l)] w_) hf269 ?_ ?_ ?_
          · exact ⟨φ247, rfl, f250, f251, f252, f253, rfl, f254, f255, f256, fi246, rfl, (PHeap.Le.refl _), hS249⟩
          · rintro k265 a264 xx273 σ271 W272 hk276 ⟨φ278, fi277, f281, f282, f283, f284, f285, f286, f287, f288, f289, f290, le279, hS280⟩ hx274
            have c291 : Hid ((↑k265 : Int) < (w64 (p0 + 1))) := Hid.mk (lp_lt0 hk276)
            replace hk276 := Hid.mk hk276
            have hi292 : Hid (w64 ((↑k265 : Int) + 1) = (↑(k265 + 1) : Int)) := Hid.mk (by have h1 := hle268.out; have h2 := c291.out; rw [w64_in] <;> omega)
            refine CK.seq ?_
            refine CK.reg (ks := []) (.fl 0 (.nil)) rfl ?_
            refine OKS.r rfl rfl rfl rfl (fun _ => Runs.lss rfl fi277 f290) ?_
            refine OKS.e ?_
            refine thenQ_n ?_
            refine CK.seq ?_
            refine CK.condT (decT c291.out) ?_
            refine CK.skip ?_
            refine thenQ_n ?_
            refine CK.seq ?_
            refine CK.block ?_
            refine CK.seq ?_
            refine CK.reg (ks := []) (.fl 0 (.fl 1 (.nil))) rfl ?_
            refine OKS.r rfl rfl rfl rfl (fun _ => Runs.mv rfl fi277) ?_
            refine OKS.r rfl rfl rfl rfl (fun _ => Runs.as rfl rfl) ?_
            refine OKS.e ?_
            refine thenQ_n ?_
            refine CK.anyOrd Try.mixed [3, 3, 3, 3, 3, 3, 1, 3, 3, 3, 3, 1, 3, 3, 3, 3, 1, 3, 3, 3, 3, 0] (.fl 0 (.fl 1 (.fl 2 (.fl 3 (.fl 4 (.fl 5 (.fl 6 (.fl 7 (.fl 8 (.fl 9 (.fl 10 (.fl 11 (.fl 12 (.fl 13 (.fl 14 (.fl 15 (.fl 16 (.fl 17 (.fl 18 (.fl 19 (.fl 20 (.fx 21 (.nil) .stop)))))))))))))))))))))) (by kernel_rfl) ?_
            have hS293 := hS280.drew
            generalize hw_W294 : ({ W272 with drawn := W272.drawn + 1 } : World) = W294 at hS293 ⊢
            refine OKS.r rfl rfl rfl rfl (fun _ => Runs.mv rfl f285) ?_
            refine OKS.r rfl rfl rfl rfl (fun _ => Runs.mv rfl rfl) ?_
            refine OKS.r rfl rfl rfl rfl (fun _ => Runs.mv rfl f285) ?_
            refine OKS.r rfl rfl rfl rfl (fun _ => Runs.mv rfl rfl) ?_
            obtain ⟨_, h295, hm296⟩ := bnd hx274
            refine OKS.r rfl rfl rfl rfl (fun _ => Runs.iaA rfl f283 rfl Try.runUnderlying136 Try.sizeOf135 (chk_lo h295) (chk_hi h295)) ?_
            obtain ⟨_, h297, hm298⟩ := bnd hm296
            refine OKS.r rfl rfl rfl rfl (fun _ => Runs.iaA rfl rfl rfl Try.runUnderlying135 Try.sizeOf3 (chk_lo h297) (chk_hi h297)) ?_
            have hg299 := Arr.at_ a264 (k := (k234 * 9 + k265)) (by have hz0 := chk_lt h295; have hz1 := chk_lt h297; omega)
            refine OKS.m rfl rfl rfl rfl (hS293.ldB (j := 0) rfl rfl rfl Try.isAgg3 (flatMap_cell (sz := 1) (fun _ => rfl) _ _ 0 _ hg299 (by omega) rfl)) rfl ?_
            refine OKS.r rfl rfl rfl rfl (fun _ => Runs.mv rfl f285) ?_
            refine OKS.r rfl rfl rfl rfl (fun _ => Runs.mv rfl f284) ?_
            refine OKS.r rfl rfl rfl rfl (fun _ => Runs.iaA rfl f283 rfl Try.runUnderlying136 Try.sizeOf135 (chk_lo h295) (chk_hi h295)) ?_
            obtain ⟨_, h300, hm301⟩ := bnd hm298
            refine OKS.r rfl rfl rfl rfl (fun _ => Runs.iaA rfl rfl rfl Try.runUnderlying135 Try.sizeOf3 (chk_lo h300) (chk_hi h300)) ?_
            have hg302 := Arr.at_ a264 (k := (k234 * 9 + k206)) (by have hz0 := chk_lt h295; have hz1 := chk_lt h300; omega)
            refine OKS.m rfl rfl rfl rfl (hS293.ldB (j := 0) rfl rfl rfl Try.isAgg3 (flatMap_cell (sz := 1) (fun _ => rfl) _ _ 0 _ hg302 (by omega) rfl)) rfl ?_
            refine OKS.r rfl rfl rfl rfl (fun _ => Runs.mv rfl f284) ?_
            refine OKS.r rfl rfl rfl rfl (fun _ => Runs.mv rfl rfl) ?_
            refine OKS.r rfl rfl rfl rfl (fun _ => Runs.iaA rfl f283 rfl Try.runUnderlying136 Try.sizeOf135 (chk_lo h300) (chk_hi h300)) ?_
            refine OKS.r rfl rfl rfl rfl (fun _ => Runs.iaA rfl rfl rfl Try.runUnderlying135 Try.sizeOf3 (chk_lo h297) (chk_hi h297)) ?_
            have hg303 := Arr.at_ a264 (k := (k206 * 9 + k265)) (by have hz0 := chk_lt h300; have hz1 := chk_lt h297; omega)
            refine OKS.m rfl rfl rfl rfl (hS293.ldB (j := 0) rfl rfl rfl Try.isAgg3 (flatMap_cell (sz := 1) (fun _ => rfl) _ _ 0 _ hg303 (by omega) rfl)) rfl ?_
            refine OKS.r rfl rfl rfl rfl (fun _ => Runs.addw rfl rfl rfl) ?_
            refine OKS.r rfl rfl rfl rfl (fun _ => Runs.min rfl rfl rfl) ?_
            refine OKS.r rfl rfl rfl rfl (fun _ => Runs.iaA rfl f283 rfl Try.runUnderlying136 Try.sizeOf135 (chk_lo h295) (chk_hi h295)) ?_
            refine OKS.r rfl rfl rfl rfl (fun _ => Runs.iaA rfl rfl rfl Try.runUnderlying135 Try.sizeOf3 (chk_lo h297) (chk_hi h297)) ?_
            have hg304 := Arr.at_ a264 (k := (k234 * 9 + k265)) (by have hz0 := chk_lt h295; have hz1 := chk_lt h297; omega)
            refine OKS.st (j := 0) (vs := [.int .i64 (min (a264.get (k234 * 9 + k265)) (w64 ((a264.get (k234 * 9 + k206)) + (a264.get (k206 * 9 + k265)))))]) (cs' := List.flatMap encI (a264.set (k234 * 9 + k265) (min (a264.get (k234 * 9 + k265)) (w64 ((a264.get (k234 * 9 + k206)) + (a264.get (k206 * 9 + k265)))))).l) rfl rfl rfl rfl hS293 rfl rfl rfl rfl Try.sizeOf3 (by have hz0 := chk_lt h295; have hz1 := chk_lt h297; simp only [List.length_append, List.length_cons, List.length_nil, whole_len (f := encI) (sz := 1) (N := 81) a264 (fun _ => rfl) rfl]; omega) rfl (setN_at (sz := 1) (fo := 0) (fun _ => rfl) _ _ _ _ hg304 (by omega) (Nat.le_of_ble_eq_true rfl) rfl) rfl ?_
            intro W305 hS306
            have hS307 : St ⟨w, [], φ⟩ φ278 [.blk b7 136 (List.flatMap encI (a264.set (k234 * 9 + k265) (min (a264.get (k234 * 9 + k265)) (w64 ((a264.get (k234 * 9 + k206)) + (a264.get (k206 * 9 + k265)))))).l), .blk b2 136 (List.flatMap encI (Arr.fill 81 0).l)] W305 := hS306
            refine OKS.e ?_
            refine blockQ_n ?_
            refine thenQ_n ?_
            refine CK.reg (ks := []) (.fl 0 (.fl 1 (.nil))) rfl ?_
            refine OKS.r rfl rfl rfl rfl (fun _ => Runs.to (Runs.addw rfl fi277 rfl) (congrArg (Value.int .i64) hi292.out)) ?_
            refine OKS.r rfl rfl rfl rfl (fun _ => Runs.mv rfl rfl) ?_
            refine OKS.e ?_
            cases hm301
            exact thenQ_n ⟨rfl, ⟨φ278, rfl, f281, f282, f283, f284, f285, f286, f287, f288, f289, f290, le279, hS307⟩⟩
          · rintro σ309 W310 ⟨φ314, fi312, f317, f318, f319, f320, f321, f322, f323, f324, f325, f326, le315, hS316⟩
            have c327 : Hid (¬ ((↑((w64 (p0 + 1) : Int) - 0).toNat : Int) < (w64 (p0 + 1)))) := Hid.mk (lp_end0)
            refine CK.seq ?_
            refine CK.reg (ks := []) (.fl 0 (.nil)) rfl ?_
            refine OKS.r rfl rfl rfl rfl (fun _ => Runs.lss rfl fi312 f326) ?_
            refine OKS.e ?_
            refine thenQ_n ?_
            refine CK.seq ?_
            refine CK.condF (decF c327.out) ?_
            refine CK.exit ?_
            refine thenQ_e ?_
            refine thenQ_e ?_
            refine blockQ_h ?_
            refine blockQ_n ?_
            refine thenQ_n ?_
            refine CK.reg (ks := []) (.fl 0 (.fl 1 (.nil))) rfl ?_
            refine OKS.r rfl rfl rfl rfl (fun _ => Runs.to (Runs.addw rfl f325 rfl) (congrArg (Value.int .i64) hi258.out)) ?_
            refine OKS.r rfl rfl rfl rfl (fun _ => Runs.mv rfl rfl) ?_
            refine OKS.e ?_
            cases hm266
            exact thenQ_n ⟨rfl, ⟨φ314, rfl, f317, f318, f319, f320, f322, f323, f324, (le248.trans le315), hS316⟩⟩
        · rintro σ329 W330 ⟨φ334, fi332, f337, f338, f339, f340, f341, f342, f343, le335, hS336⟩
          have c344 : Hid (¬ ((↑((w64 (p0 + 1) : Int) - 0).toNat : Int) < (w64 (p0 + 1)))) := Hid.mk (lp_end0)
          refine CK.seq ?_
          refine CK.reg (ks := []) (.fl 0 (.nil)) rfl ?_
          refine OKS.r rfl rfl rfl rfl (fun _ => Runs.lss rfl fi332 f343) ?_
          refine OKS.e ?_
          refine thenQ_n ?_
          refine CK.seq ?_
          refine CK.condF (decF c344.out) ?_
          refine CK.exit ?_
          refine thenQ_e ?_
          refine thenQ_e ?_
          refine blockQ_h ?_
          refine blockQ_n ?_
          refine thenQ_n ?_
          refine CK.reg (ks := []) (.fl 0 (.fl 1 (.nil))) rfl ?_
          refine OKS.r rfl rfl rfl rfl (fun _ => Runs.to (Runs.addw rfl f342 rfl) (congrArg (Value.int .i64) hi227.out)) ?_
          refine OKS.r rfl rfl rfl rfl (fun _ => Runs.mv rfl rfl) ?_
          refine OKS.e ?_
          cases hm235
          exact thenQ_n ⟨rfl, ⟨φ334, rfl, f337, f338, f339, f341, (le220.trans le335), hS336⟩⟩
      · rintro σ346 W347 ⟨φ351, fi349, f354, f355, f356, f357, le352, hS353⟩
        have c358 : Hid (¬ ((↑((w64 (p0 + 1) : Int) - 0).toNat : Int) < (w64 (p0 + 1)))) := Hid.mk (lp_end0)
        refine CK.seq ?_
        refine CK.reg (ks := []) (.fl 0 (.nil)) rfl ?_
        refine OKS.r rfl rfl rfl rfl (fun _ => Runs.lss rfl fi349 f357) ?_
        refine OKS.e ?_
        refine thenQ_n ?_
        refine CK.seq ?_
        refine CK.condF (decF c358.out) ?_
        refine CK.exit ?_
        refine thenQ_e ?_
        refine thenQ_e ?_
        refine blockQ_h ?_
        refine thenQ_n ?_
        refine CK.seq ?_
        refine CK.seq ?_
        refine CK.reg (ks := []) (.fl 0 (.fl 1 (.fl 2 (.nil)))) rfl ?_
        refine OKS.r rfl rfl rfl rfl (fun _ => Runs.mv rfl f354) ?_
        refine OKS.r rfl rfl rfl rfl (fun _ => Runs.addw rfl rfl rfl) ?_
        refine OKS.r rfl rfl rfl rfl (fun _ => Runs.mv rfl rfl) ?_
        refine OKS.e ?_
        refine thenQ_n ?_
        refine CK.block ?_
        obtain ⟨r361, hX362⟩ := jn_some hm207
        obtain ⟨hle363, hf364⟩ := forR_le hX362
        replace hle363 := Hid.mk hle363
        refine CK.forN (fun k360 _ σ_ w_ => ∃ (φ_ : PHeap), σ_ 95 = .int .i64 (↑k360 : Int) ∧ σ_ 4 = .pointer (some ⟨b2, 0, none⟩) ∧ σ_ 6 = .pointer (some ⟨b7, 0, none⟩) ∧ σ_ 94 = .int .i64 (w64 (p0 + 1)) ∧ PHeap.Le φ351 φ_ ∧ St ⟨w, [], φ⟩ φ_ [.blk b7 136 (List.flatMap encI y211.l), .blk b2 136 (List.flatMap encI (Arr.fill 81 0).l)] w_) hf364 ?_ ?_ ?_
        · exact ⟨φ351, rfl, f355, f356, rfl, (PHeap.Le.refl _), hS353⟩
        · rintro k360 ⟨⟩ xx367 σ365 W366 hk370 ⟨φ372, fi371, f375, f376, f377, le373, hS374⟩ hx368 hb369
          try dsimp only at hx368
          have c378 : Hid ((↑k360 : Int) < (w64 (p0 + 1))) := Hid.mk (lp_lt0 hk370)
          replace hk370 := Hid.mk hk370
          have hi379 : Hid (w64 ((↑k360 : Int) + 1) = (↑(k360 + 1) : Int)) := Hid.mk (by have h1 := hle363.out; have h2 := c378.out; rw [w64_in] <;> omega)
          refine CK.seq ?_
          refine CK.reg (ks := []) (.fl 0 (.nil)) rfl ?_
          refine OKS.r rfl rfl rfl rfl (fun _ => Runs.lss rfl fi371 f377) ?_
          refine OKS.e ?_
          refine thenQ_n ?_
          refine CK.seq ?_
          refine CK.condT (decT c378.out) ?_
          refine CK.skip ?_
          refine thenQ_n ?_
          refine CK.seq ?_
          refine CK.block ?_
          refine CK.seq ?_
          refine CK.reg (ks := []) (.fl 0 (.fl 1 (.nil))) rfl ?_
          refine OKS.r rfl rfl rfl rfl (fun _ => Runs.mv rfl fi371) ?_
          refine OKS.r rfl rfl rfl rfl (fun _ => Runs.as rfl rfl) ?_
          refine OKS.e ?_
          refine thenQ_n ?_
          refine CK.seq ?_
          refine CK.reg (ks := []) (.fl 0 (.fl 1 (.fl 2 (.fl 3 (.fl 4 (.fl 5 (.nil))))))) rfl ?_
          refine OKS.r rfl rfl rfl rfl (fun _ => Runs.mv rfl rfl) ?_
          refine OKS.r rfl rfl rfl rfl (fun _ => Runs.mv rfl rfl) ?_
          obtain ⟨_, h380, hm381⟩ := bnd hx368
          refine OKS.r rfl rfl rfl rfl (fun _ => Runs.iaA rfl f376 rfl Try.runUnderlying136 Try.sizeOf135 (chk_lo h380) (chk_hi h380)) ?_
          refine OKS.r rfl rfl rfl rfl (fun _ => Runs.iaA rfl rfl rfl Try.runUnderlying135 Try.sizeOf3 (chk_lo h380) (chk_hi h380)) ?_
          have hg382 := Arr.at_ y211 (k := (k360 * 9 + k360)) (by have hz0 := chk_lt h380; have hz1 := chk_lt h380; omega)
          refine OKS.m rfl rfl rfl rfl (hS374.ldB (j := 0) rfl rfl rfl Try.isAgg3 (flatMap_cell (sz := 1) (fun _ => rfl) _ _ 0 _ hg382 (by omega) rfl)) rfl ?_
          refine OKS.r rfl rfl rfl rfl (fun _ => Runs.lss rfl rfl rfl) ?_
          refine OKS.e ?_
          refine thenQ_n ?_
          by_cases c383 : (y211.get (k360 * 9 + k360)) < 0
          · have hm384 := hm381; rw [if_pos c383] at hm384; replace c383 := Hid.mk c383
            refine CK.condT (decT c383.out) ?_
            refine CK.seq ?_
            refine CK.reg (ks := []) (.fl 0 (.fx 1 (.fl 2 (.nil)) .stop)) rfl ?_
            refine OKS.m rfl rfl rfl rfl (hS374.ldBA (j := 0) rfl rfl f376 Try.isAgg136 Try.sizeOf136 (vs := List.flatMap encI y211.l) (whole y211 (fun _ => rfl) rfl) (whole_len y211 (fun _ => rfl) rfl)) rfl ?_
            refine OKS.st (j := 1) (vs := List.flatMap encI y211.l) rfl rfl rfl rfl hS374 rfl f375 rfl rfl (fun w => by rw [whole_len (f := encI) (sz := 1) (N := 81) y211 (fun _ => rfl) rfl]; exact Try.sizeOf136 w) (by rw [whole_len (f := encI) (sz := 1) (N := 81) y211 (fun _ => rfl) rfl, whole_len (f := encI) (sz := 1) (N := 81) (Arr.fill 81 0) (fun _ => rfl) rfl]; exact Nat.le_of_ble_eq_true rfl) (all_one_flat (fun _ => rfl) _) (setN_all _ _ (by rw [whole_len (f := encI) (sz := 1) (N := 81) y211 (fun _ => rfl) rfl, whole_len (f := encI) (sz := 1) (N := 81) (Arr.fill 81 0) (fun _ => rfl) rfl])) rfl ?_
            intro W385 hS386
            have hS387 : St ⟨w, [], φ⟩ φ372 [.blk b7 136 (List.flatMap encI y211.l), .blk b2 136 (List.flatMap encI y211.l)] W385 := hS386
            refine OKS.r rfl rfl rfl rfl (fun _ => Runs.as rfl rfl) ?_
            refine OKS.e ?_
            refine thenQ_n ?_
            refine CK.ret ?_
            refine blockQ_r ?_
            refine thenQ_r ?_
            obtain ⟨v388, hm389, e390⟩ := esc_spec hm384
            obtain rfl := jn_inr hm207 hX362 (hb369 v388 e390)
            refine thenQ_r ?_
            refine blockQ_r ?_
            refine thenQ_r ?_
            cases hm389
            exact ⟨rfl, _, (resLn (rs := [.cell 4 136, .tmp 5]) (vs := [.agg (List.flatMap encI y211.l).toArray, .bool false]) ⟨⟨_, f375, (ldvarA Try.isAgg136 Try.sizeOf136 (hS387.blkAt (k := 1) rfl) (whole y211 (fun _ => rfl) rfl) (whole_len y211 (fun _ => rfl) rfl))⟩, ⟨rfl, trivial⟩⟩ rfl), φ372, _, (hS387.pick [] _ (by decide) rfl), rfl, rfl⟩
          · have hm391 := hm381; rw [if_neg c383] at hm391; replace c383 := Hid.mk c383
            refine CK.condF (decF c383.out) ?_
            refine CK.skip ?_
            refine blockQ_n ?_
            refine thenQ_n ?_
            refine CK.reg (ks := []) (.fl 0 (.fl 1 (.nil))) rfl ?_
            refine OKS.r rfl rfl rfl rfl (fun _ => Runs.to (Runs.addw rfl fi371 rfl) (congrArg (Value.int .i64) hi379.out)) ?_
            refine OKS.r rfl rfl rfl rfl (fun _ => Runs.mv rfl rfl) ?_
            refine OKS.e ?_
            obtain rfl := Option.some.inj hm391
            exact thenQ_n ⟨rfl, _, rfl, ⟨φ372, rfl, f375, f376, f377, le373, hS374⟩⟩
        · rintro ⟨⟩ σ392 W393 ⟨φ396, fi395, f399, f400, f401, le397, hS398⟩ hb394
          have hm402 := jn_inl hm207 hX362 hb394
          try dsimp only at hm402
          have c403 : Hid (¬ ((↑((w64 (p0 + 1) : Int) - 0).toNat : Int) < (w64 (p0 + 1)))) := Hid.mk (lp_end0)
          refine CK.seq ?_
          refine CK.reg (ks := []) (.fl 0 (.nil)) rfl ?_
          refine OKS.r rfl rfl rfl rfl (fun _ => Runs.lss rfl fi395 f401) ?_
          refine OKS.e ?_
          refine thenQ_n ?_
          refine CK.seq ?_
          refine CK.condF (decF c403.out) ?_
          refine CK.exit ?_
          refine thenQ_e ?_
          refine thenQ_e ?_
          refine blockQ_h ?_
          refine thenQ_n ?_
          refine CK.seq ?_
          refine CK.reg (ks := []) (.fl 0 (.fx 1 (.fl 2 (.nil)) .stop)) rfl ?_
          refine OKS.m rfl rfl rfl rfl (hS398.ldBA (j := 0) rfl rfl f400 Try.isAgg136 Try.sizeOf136 (vs := List.flatMap encI y211.l) (whole y211 (fun _ => rfl) rfl) (whole_len y211 (fun _ => rfl) rfl)) rfl ?_
          refine OKS.st (j := 1) (vs := List.flatMap encI y211.l) rfl rfl rfl rfl hS398 rfl f399 rfl rfl (fun w => by rw [whole_len (f := encI) (sz := 1) (N := 81) y211 (fun _ => rfl) rfl]; exact Try.sizeOf136 w) (by rw [whole_len (f := encI) (sz := 1) (N := 81) y211 (fun _ => rfl) rfl, whole_len (f := encI) (sz := 1) (N := 81) (Arr.fill 81 0) (fun _ => rfl) rfl]; exact Nat.le_of_ble_eq_true rfl) (all_one_flat (fun _ => rfl) _) (setN_all _ _ (by rw [whole_len (f := encI) (sz := 1) (N := 81) y211 (fun _ => rfl) rfl, whole_len (f := encI) (sz := 1) (N := 81) (Arr.fill 81 0) (fun _ => rfl) rfl])) rfl ?_
          intro W404 hS405
          have hS406 : St ⟨w, [], φ⟩ φ396 [.blk b7 136 (List.flatMap encI y211.l), .blk b2 136 (List.flatMap encI y211.l)] W404 := hS405
          refine OKS.r rfl rfl rfl rfl (fun _ => Runs.as rfl rfl) ?_
          refine OKS.e ?_
          refine thenQ_n ?_
          refine CK.ret ?_
          cases hm402
          exact ⟨rfl, _, (resLn (rs := [.cell 4 136, .tmp 5]) (vs := [.agg (List.flatMap encI y211.l).toArray, .bool true]) ⟨⟨_, f399, (ldvarA Try.isAgg136 Try.sizeOf136 (hS406.blkAt (k := 1) rfl) (whole y211 (fun _ => rfl) rfl) (whole_len y211 (fun _ => rfl) rfl))⟩, ⟨rfl, trivial⟩⟩ rfl), φ396, _, (hS406.pick [] _ (by decide) rfl), rfl, rfl⟩
end Go.Proofs.Ytnllmignponhdaa
