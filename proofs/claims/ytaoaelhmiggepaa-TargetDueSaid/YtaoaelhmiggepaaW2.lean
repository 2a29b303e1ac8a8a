/- Walks, printed by a program: each function does what its model says. -/
import Derived.Test.YtaoaelhmiggepaaEnc
import Derived.Test.YtaoaelhmiggepaaW0
import Derived.Test.YtaoaelhmiggepaaW1
namespace Go.Proofs.Ytaoaelhmiggepaa
open Go.KL
set_option maxHeartbeats 4000000 in
theorem w_klisterref03_Owed (p0 : List Int) (pA0 : Option Addr) (pc0 : Nat) (p1 : List T_klisterref03_Sheet) (pA1 : Option Addr) (pc1 : Nat) (w : World) (φ : PHeap) (hS : St ⟨w, [], φ⟩ φ [] w) (ha0 : Sl φ 1 pA0 pc0 p0.length (List.flatMap encI p0)) (ha1 : Sl φ 4 pA1 pc1 p1.length (List.flatMap encT_klisterref03_Sheet p1)) {r : Int} (hm : m_klisterref03_Owed p0 p1 = some r) : Gv Try.prog 67 [.slice pA0 p0.length pc0, .slice pA1 p1.length pc1] w (RetS w [] φ (fun φ_ L_ v => v = .int .i64 r ∧ L_ = [])) := by
 unfold m_klisterref03_Owed at hm
 refine Gv.of Try.func67 rfl Try.ntmps67 Try.results67 rfl ?_
 refine CK.seq ?_
 refine CK.reg (ks := []) (.fl 0 (.nil)) rfl ?_
 refine OKS.ra rfl rfl rfl rfl rfl rfl ?_
 refine OKS.e ?_
 refine thenQ_n ?_
 refine CK.seq ?_
 refine CK.seq ?_
 refine CK.reg (ks := []) (.fl 0 (.fl 1 (.fl 2 (.fl 3 (.fl 4 (.fl 5 (.fl 6 (.fl 7 (.nil))))))))) rfl ?_
 refine OKS.rm rfl rfl rfl rfl rfl rfl ?_
 refine OKS.r rfl rfl rfl rfl (fun _ => Runs.len rfl rfl Try.runUnderlying22) ?_
 refine OKS.r rfl rfl rfl rfl (fun _ => Runs.lss rfl rfl rfl) ?_
 refine OKS.rm rfl rfl rfl rfl rfl rfl ?_
 by_cases c1 : (↑p0.length : Int) < 1
 ·have hm2 := hm; rw [if_pos c1] at hm2; replace c1 := Hid.mk c1
  refine OKS.p rfl rfl rfl (wantedN rfl rfl (decT c1.out) rfl) ?_
  refine OKS.p rfl rfl rfl (wantedN rfl rfl (decT c1.out) rfl) ?_
  refine OKS.p rfl rfl rfl (wantedN rfl rfl (decT c1.out) rfl) ?_
  refine OKS.r rfl rfl rfl rfl (fun _ => Runs.pickT rfl (decT c1.out) rfl) ?_
  refine OKS.e ?_
  refine thenQ_n ?_
  refine CK.condT rfl ?_
  refine CK.seq ?_
  refine CK.reg (ks := []) (.fl 0 (.nil)) rfl ?_
  refine OKS.ra rfl rfl rfl rfl rfl rfl ?_
  refine OKS.e ?_
  refine thenQ_n ?_
  refine CK.ret ?_
  refine thenQ_r ?_
  cases hm2
  exact ⟨rfl, _, (res1 rfl), φ, _, hS, rfl, rfl⟩
 ·have hm3 := hm; rw [if_neg c1] at hm3; replace c1 := Hid.mk c1
  refine OKS.rm rfl rfl rfl (wantedY rfl rfl (decF c1.out)) rfl rfl ?_
  refine OKS.r rfl rfl rfl (wantedY rfl rfl (decF c1.out)) (fun _ => Runs.len rfl rfl Try.runUnderlying22) ?_
  refine OKS.r rfl rfl rfl (wantedY rfl rfl (decF c1.out)) (fun _ => Runs.gtr rfl rfl rfl) ?_
  refine OKS.r rfl rfl rfl rfl (fun _ => Runs.pickF rfl (decF c1.out) rfl) ?_
  refine OKS.e ?_
  refine thenQ_n ?_
  by_cases c4 : 8 < (↑p0.length : Int)
  ·have hm5 := hm3; rw [if_pos c4] at hm5; replace c4 := Hid.mk c4
   refine CK.condT (decT c4.out) ?_
   refine CK.seq ?_
   refine CK.reg (ks := []) (.fl 0 (.nil)) rfl ?_
   refine OKS.ra rfl rfl rfl rfl rfl rfl ?_
   refine OKS.e ?_
   refine thenQ_n ?_
   refine CK.ret ?_
   refine thenQ_r ?_
   cases hm5
   exact ⟨rfl, _, (res1 rfl), φ, _, hS, rfl, rfl⟩
  ·have hm6 := hm3; rw [if_neg c4] at hm6; replace c4 := Hid.mk c4
   refine CK.condF (decF c4.out) ?_
   refine CK.skip ?_
   refine thenQ_n ?_
   refine CK.seq ?_
   refine CK.seq ?_
   refine CK.reg (ks := []) (.fl 0 (.nil)) rfl ?_
   refine OKS.ra rfl rfl rfl rfl rfl rfl ?_
   refine OKS.e ?_
   refine thenQ_n ?_
   refine CK.block ?_
   have q := jn_some hm6
   obtain ⟨r9, hX10⟩ := q
   have q := forR_le hX10
   obtain ⟨hle11, hf12⟩ := q
   replace hle11 := Hid.mk hle11
   refine CK.forN (fun k8 _ σ_ w_ => ∃ (φ_ : PHeap), σ_ 5 = .int .i64 (↑k8 : Int) ∧ σ_ 0 = .slice pA0 p0.length pc0 ∧ σ_ 1 = .slice pA1 p1.length pc1 ∧ PHeap.Le φ φ_ ∧ St ⟨w, [], φ⟩ φ_ [] w_) hf12 ?_ ?_ ?_
   ·exact ⟨φ, rfl, rfl, rfl, (PHeap.Le.refl _), hS⟩
   ·rintro k8 ⟨⟩ xx15 σ13 W14 hk18 ⟨φ20, fi19, f23, f24, le21, hS22⟩ hx16 hb17
    try dsimp only at hx16
    have c25 : Hid ((↑k8 : Int) < (↑p0.length : Int)) := Hid.mk (lp_lt0 hk18)
    replace hk18 := Hid.mk hk18
    have hi26 : Hid (w64 ((↑k8 : Int) + 1) = (↑(k8 + 1) : Int)) := Hid.mk (by have h1 := hle11.out; have h2 := c25.out; rw [w64_in] <;> omega)
    refine CK.seq ?_
    refine CK.seq ?_
    refine CK.reg (ks := []) (.fl 0 (.fl 1 (.fl 2 (.fl 3 (.nil))))) rfl ?_
    refine OKS.rm rfl rfl rfl rfl rfl fi19 ?_
    refine OKS.rm rfl rfl rfl rfl rfl f23 ?_
    refine OKS.r rfl rfl rfl rfl (fun _ => Runs.len rfl rfl Try.runUnderlying22) ?_
    refine OKS.r rfl rfl rfl rfl (fun _ => Runs.lss rfl rfl rfl) ?_
    refine OKS.e ?_
    refine thenQ_n ?_
    refine CK.condT (decT c25.out) ?_
    refine CK.skip ?_
    refine thenQ_n ?_
    refine CK.seq ?_
    refine CK.block ?_
    refine CK.seq ?_
    refine CK.reg (ks := []) (.fl 0 (.fl 1 (.fl 2 (.fl 3 (.fx 4 (.nil) .stop))))) rfl ?_
    refine OKS.rm rfl rfl rfl rfl rfl f23 ?_
    refine OKS.rm rfl rfl rfl rfl rfl fi19 ?_
    have q := bnd hx16
    obtain ⟨x27, h28, hm29⟩ := q
    have h30 := ha0.le le21
    have q := h30.el (fun _ => rfl) (idx_get h28)
    obtain ⟨b31, off32, hA33, hC34⟩ := q
    refine OKS.r rfl rfl rfl rfl (fun _ => Runs.iaN rfl rfl hA33 rfl Try.runUnderlying22 Try.sizeOf3 (idx_lt h28)) ?_
    refine OKS.m rfl rfl rfl rfl (hS22.ldC (f := 0) hC34 (v := .int .i64 x27) rfl rfl Try.isAgg3 rfl) rfl ?_
    have q := bnd hm29
    obtain ⟨x35, h36, hm37⟩ := q
    refine OKS.callH 0 rfl rfl rfl rfl (Enters.mk rfl rfl Try.call71 (mapcons rfl (mapcons rfl (mapcons rfl mapnil))) rfl) hS22 (fun hs => w_klisterref03_outside x27 0 5 W14 φ20 hs h36) (.inr rfl) ?_
    rintro φ38 L39 v40 W41 le42 hS43 ⟨rfl, rfl⟩
    have hS44 : St ⟨w, [], φ⟩ φ38 [] W41 := hS43
    refine OKS.e ?_
    refine thenQ_n ?_
    by_cases c45 : x35 = true
    ·have hm46 := hm37; rw [if_pos c45] at hm46; replace c45 := Hid.mk c45
     refine CK.condT (congrArg Value.bool c45.out) ?_
     refine CK.seq ?_
     refine CK.reg (ks := []) (.fl 0 (.nil)) rfl ?_
     refine OKS.ra rfl rfl rfl rfl rfl rfl ?_
     refine OKS.e ?_
     refine thenQ_n ?_
     refine CK.ret ?_
     refine blockQ_r ?_
     refine thenQ_r ?_
     have q := esc_spec hm46
     obtain ⟨v47, hm48, e49⟩ := q
     obtain rfl := jn_inr hm6 hX10 (hb17 v47 e49)
     refine thenQ_r ?_
     refine blockQ_r ?_
     refine thenQ_r ?_
     cases hm48
     exact ⟨rfl, _, (res1 rfl), φ38, _, hS44, rfl, rfl⟩
    ·have hm50 := hm37; rw [if_neg c45] at hm50; replace c45 := Hid.mk c45
     refine CK.condF (congrArg Value.bool (Bool.eq_false_iff.2 c45.out)) ?_
     refine CK.skip ?_
     refine blockQ_n ?_
     refine thenQ_n ?_
     refine CK.reg (ks := []) (.fl 0 (.fl 1 (.fl 2 (.nil)))) rfl ?_
     refine OKS.rm rfl rfl rfl rfl rfl fi19 ?_
     refine OKS.r rfl rfl rfl rfl (fun _ => Runs.to (Runs.addw rfl rfl rfl) (congrArg (Value.int .i64) hi26.out)) ?_
     refine OKS.ra rfl rfl rfl rfl rfl rfl ?_
     refine OKS.e ?_
     obtain rfl := Option.some.inj hm50
     exact thenQ_n ⟨rfl, _, rfl, ⟨φ38, rfl, f23, f24, (le21.trans le42), hS44⟩⟩
   ·rintro ⟨⟩ σ51 W52 ⟨φ55, fi54, f58, f59, le56, hS57⟩ hb53
    have hm60 := jn_inl hm6 hX10 hb53
    try dsimp only at hm60
    have c61 : Hid (¬ ((↑(((↑p0.length : Int) : Int) - 0).toNat : Int) < (↑p0.length : Int))) := Hid.mk (lp_end0)
    refine CK.seq ?_
    refine CK.seq ?_
    refine CK.reg (ks := []) (.fl 0 (.fl 1 (.fl 2 (.fl 3 (.nil))))) rfl ?_
    refine OKS.rm rfl rfl rfl rfl rfl fi54 ?_
    refine OKS.rm rfl rfl rfl rfl rfl f58 ?_
    refine OKS.r rfl rfl rfl rfl (fun _ => Runs.len rfl rfl Try.runUnderlying22) ?_
    refine OKS.r rfl rfl rfl rfl (fun _ => Runs.lss rfl rfl rfl) ?_
    refine OKS.e ?_
    refine thenQ_n ?_
    refine CK.condF (decF c61.out) ?_
    refine CK.exit ?_
    refine thenQ_e ?_
    refine thenQ_e ?_
    refine blockQ_h ?_
    refine thenQ_n ?_
    refine CK.seq ?_
    refine CK.reg (ks := []) (.fl 0 (.fl 1 (.fl 2 (.fx 3 (.fl 4 (.nil)) .stop)))) rfl ?_
    refine OKS.rm rfl rfl rfl rfl rfl f58 ?_
    refine OKS.r rfl rfl rfl rfl (fun _ => Runs.len rfl rfl Try.runUnderlying22) ?_
    refine OKS.rm rfl rfl rfl rfl rfl f59 ?_
    have h62 := ha1.le le56
    have q := bnd hm60
    obtain ⟨x63, h64, hm65⟩ := q
    refine OKS.callH 0 rfl rfl rfl rfl (Enters.mk rfl rfl Try.call112 (mapcons rfl (mapcons rfl mapnil)) rfl) hS57 (fun hs => w_klisterref03_CheckSheets (↑p0.length : Int) p1 pA1 pc1 W52 φ55 hs h62 h64) (.inr rfl) ?_
    rintro φ66 L67 v68 W69 le70 hS71 ⟨rfl, rfl⟩
    have hS72 : St ⟨w, [], φ⟩ φ66 [] W69 := hS71
    refine OKS.ra rfl rfl rfl rfl rfl rfl ?_
    refine OKS.e ?_
    refine thenQ_n ?_
    refine CK.ret ?_
    cases hm65
    exact ⟨rfl, _, (res1 rfl), φ66, _, hS72, rfl, rfl⟩

set_option maxHeartbeats 4000000 in
theorem w_klisterref03_Truths (p0 : Int) (p1 : List T_klisterref03_Sheet) (pA1 : Option Addr) (pc1 : Nat) (w : World) (φ : PHeap) (hS : St ⟨w, [], φ⟩ φ [] w) (ha0 : Sl φ 4 pA1 pc1 p1.length (List.flatMap encT_klisterref03_Sheet p1)) {r : (List (List Int))} (hm : m_klisterref03_Truths p0 p1 = some r) : Gv Try.prog 21 [.int .i64 p0, .slice pA1 p1.length pc1] w (RetS w [] φ (fun φ_ L_ v => ∃ (A0 : Option Addr) (c0 : Nat) (cs0 : List Value), v = .slice A0 r.length c0 ∧ L_ = [.row A0 c0 22 1 cs0] ∧ RlL φ_ rl22 r cs0)) := by
 unfold m_klisterref03_Truths at hm
 refine Gv.of Try.func21 rfl Try.ntmps21 Try.results21 rfl ?_
 refine CK.seq ?_
 refine CK.reg (ks := []) (.fl 0 (.nil)) rfl ?_
 refine OKS.ra rfl rfl rfl rfl rfl rfl ?_
 refine OKS.e ?_
 refine thenQ_n ?_
 refine CK.seq ?_
 refine CK.reg (ks := []) (.fl 0 (.nil)) rfl ?_
 refine OKS.ra rfl rfl rfl rfl rfl rfl ?_
 refine OKS.e ?_
 refine thenQ_n ?_
 refine CK.seq ?_
 refine CK.seq ?_
 refine CK.reg (ks := []) (.fl 0 (.nil)) rfl ?_
 refine OKS.ra rfl rfl rfl rfl rfl rfl ?_
 refine OKS.e ?_
 refine thenQ_n ?_
 refine CK.block ?_
 have q := bnd hm
 obtain ⟨y12, hf9, hm8⟩ := q
 have q := forR'_le hf9
 obtain ⟨hle10, hf11⟩ := q
 replace hle10 := Hid.mk hle10
 refine CK.forN' (fun k7 x6 σ_ w_ => ∃ (φ_ : PHeap), σ_ 6 = .int .i64 (↑k7 : Int) ∧ σ_ 0 = .int .i64 p0 ∧ σ_ 1 = .slice pA1 p1.length pc1 ∧ σ_ 5 = .int .i64 x6 ∧ PHeap.Le φ φ_ ∧ St ⟨w, [], φ⟩ φ_ [] w_) hf11 ?_ ?_ ?_
 ·exact ⟨φ, rfl, rfl, rfl, rfl, (PHeap.Le.refl _), hS⟩
 ·rintro k7 x6 xx15 σ13 W14 hk18 ⟨φ20, fi19, f23, f24, f25, le21, hS22⟩ hx16
  have c26 : Hid ((↑k7 : Int) < p0) := Hid.mk (lp_lt0 hk18)
  replace hk18 := Hid.mk hk18
  have hi27 : Hid (w64 ((↑k7 : Int) + 1) = (↑(k7 + 1) : Int)) := Hid.mk (by have h1 := hle10.out; have h2 := c26.out; rw [w64_in] <;> omega)
  refine CK.seq ?_
  refine CK.seq ?_
  refine CK.reg (ks := []) (.fl 0 (.fl 1 (.fl 2 (.nil)))) rfl ?_
  refine OKS.rm rfl rfl rfl rfl rfl fi19 ?_
  refine OKS.rm rfl rfl rfl rfl rfl f23 ?_
  refine OKS.r rfl rfl rfl rfl (fun _ => Runs.lss rfl rfl rfl) ?_
  refine OKS.e ?_
  refine thenQ_n ?_
  refine CK.condT (decT c26.out) ?_
  refine CK.skip ?_
  refine thenQ_n ?_
  refine CK.seq ?_
  refine CK.block ?_
  refine CK.reg (ks := []) (.fl 0 (.fl 1 (.fl 2 (.nil)))) rfl ?_
  refine OKS.rm rfl rfl rfl rfl rfl f25 ?_
  refine OKS.r rfl rfl rfl rfl (fun _ => Runs.mulw rfl rfl rfl) ?_
  refine OKS.ra rfl rfl rfl rfl rfl rfl ?_
  refine OKS.e ?_
  refine blockQ_n ?_
  refine thenQ_n ?_
  refine CK.reg (ks := []) (.fl 0 (.fl 1 (.fl 2 (.nil)))) rfl ?_
  refine OKS.rm rfl rfl rfl rfl rfl fi19 ?_
  refine OKS.r rfl rfl rfl rfl (fun _ => Runs.to (Runs.addw rfl rfl rfl) (congrArg (Value.int .i64) hi27.out)) ?_
  refine OKS.ra rfl rfl rfl rfl rfl rfl ?_
  refine OKS.e ?_
  cases hx16
  exact thenQ_n ⟨rfl, ⟨φ20, rfl, f23, f24, rfl, le21, hS22⟩⟩
 ·rintro σ29 W30 ⟨φ34, fi32, f37, f38, f39, le35, hS36⟩
  have c40 : Hid (¬ ((↑((p0 : Int) - 0).toNat : Int) < p0)) := Hid.mk (lp_end0)
  refine CK.seq ?_
  refine CK.seq ?_
  refine CK.reg (ks := []) (.fl 0 (.fl 1 (.fl 2 (.nil)))) rfl ?_
  refine OKS.rm rfl rfl rfl rfl rfl fi32 ?_
  refine OKS.rm rfl rfl rfl rfl rfl f37 ?_
  refine OKS.r rfl rfl rfl rfl (fun _ => Runs.lss rfl rfl rfl) ?_
  refine OKS.e ?_
  refine thenQ_n ?_
  refine CK.condF (decF c40.out) ?_
  refine CK.exit ?_
  refine thenQ_e ?_
  refine thenQ_e ?_
  refine blockQ_h ?_
  refine thenQ_n ?_
  refine CK.seq ?_
  refine CK.reg (ks := []) (.fl 0 (.nil)) rfl ?_
  refine OKS.ra rfl rfl rfl rfl rfl rfl ?_
  refine OKS.e ?_
  refine thenQ_n ?_
  refine CK.seq ?_
  refine CK.seq ?_
  refine CK.reg (ks := []) (.fl 0 (.nil)) rfl ?_
  refine OKS.ra rfl rfl rfl rfl rfl rfl ?_
  refine OKS.e ?_
  refine thenQ_n ?_
  refine CK.block ?_
  have q := bnd hm8
  obtain ⟨y67, hf64, hm63⟩ := q
  have q := forR'_le hf64
  obtain ⟨hle65, hf66⟩ := q
  replace hle65 := Hid.mk hle65
  refine CK.forN' (fun k62 l57 σ_ w_ => ∃ (φ_ : PHeap) (A58 : Option Addr) (c59 : Nat) (cs61 : List Value), σ_ 8 = .int .i64 (↑k62 : Int) ∧ σ_ 0 = .int .i64 p0 ∧ σ_ 1 = .slice pA1 p1.length pc1 ∧ σ_ 5 = .int .i64 y12 ∧ σ_ 7 = .slice A58 l57.length c59 ∧ PHeap.Le φ34 φ_ ∧ St ⟨w, [], φ⟩ φ_ [.row A58 c59 22 1 cs61] w_ ∧ RlL φ_ rl22 l57 cs61) hf66 ?_ ?_ ?_
  ·have hS68 := hS36.nilrow 22 1
   exact ⟨φ34, none, 0, [], rfl, f37, f38, f39, rfl, (PHeap.Le.refl _), hS68, RlL.nil⟩
  ·rintro k62 l57 xx72 σ70 W71 hk75 ⟨φ77, A58, c59, cs61, fi76, f80, f81, f82, f83, le78, hS79, h84⟩ hx73
   have c85 : Hid ((↑k62 : Int) < y12) := Hid.mk (lp_lt0 hk75)
   replace hk75 := Hid.mk hk75
   have hi86 : Hid (w64 ((↑k62 : Int) + 1) = (↑(k62 + 1) : Int)) := Hid.mk (by have h1 := hle65.out; have h2 := c85.out; rw [w64_in] <;> omega)
   refine CK.seq ?_
   refine CK.seq ?_
   refine CK.reg (ks := []) (.fl 0 (.fl 1 (.fl 2 (.nil)))) rfl ?_
   refine OKS.rm rfl rfl rfl rfl rfl fi76 ?_
   refine OKS.rm rfl rfl rfl rfl rfl f82 ?_
   refine OKS.r rfl rfl rfl rfl (fun _ => Runs.lss rfl rfl rfl) ?_
   refine OKS.e ?_
   refine thenQ_n ?_
   refine CK.condT (decT c85.out) ?_
   refine CK.skip ?_
   refine thenQ_n ?_
   refine CK.seq ?_
   refine CK.block ?_
   refine CK.seq ?_
   refine CK.reg (ks := []) (.fl 0 (.nil)) rfl ?_
   refine OKS.ra rfl rfl rfl rfl rfl rfl ?_
   refine OKS.e ?_
   refine thenQ_n ?_
   refine CK.seq ?_
   refine CK.reg (ks := []) (.fl 0 (.fl 1 (.nil))) rfl ?_
   refine OKS.rm rfl rfl rfl rfl rfl fi76 ?_
   refine OKS.ra rfl rfl rfl rfl rfl rfl ?_
   refine OKS.e ?_
   refine thenQ_n ?_
   refine CK.seq ?_
   refine CK.seq ?_
   refine CK.reg (ks := []) (.fl 0 (.nil)) rfl ?_
   refine OKS.ra rfl rfl rfl rfl rfl rfl ?_
   refine OKS.e ?_
   refine thenQ_n ?_
   refine CK.block ?_
   have q := bnd hx73
   obtain ⟨⟨y113, y114⟩, hf110, hm109⟩ := q
   try dsimp only at hm109
   have q := forR'_le hf110
   obtain ⟨hle111, hf112⟩ := q
   replace hle111 := Hid.mk hle111
   refine CK.forN' (fun k108 (l103, x107) σ_ w_ => ∃ (φ_ : PHeap) (A104 : Option Addr) (c105 : Nat), σ_ 11 = .int .i64 (↑k108 : Int) ∧ σ_ 0 = .int .i64 p0 ∧ σ_ 1 = .slice pA1 p1.length pc1 ∧ σ_ 5 = .int .i64 y12 ∧ σ_ 7 = .slice A58 l57.length c59 ∧ σ_ 8 = .int .i64 (↑k62 : Int) ∧ σ_ 9 = .slice A104 l103.length c105 ∧ σ_ 10 = .int .i64 x107 ∧ PHeap.Le φ77 φ_ ∧ St ⟨w, [], φ⟩ φ_ [.row A58 c59 22 1 cs61, .row A104 c105 3 1 (List.flatMap encI l103)] w_) hf112 ?_ ?_ ?_
   ·have hS115 := hS79.nilrow 3 1
    exact ⟨φ77, none, 0, rfl, f80, f81, f82, f83, fi76, rfl, rfl, (PHeap.Le.refl _), (hS115.pick [1, 0] _ (by decide) rfl)⟩
   ·rintro k108 ⟨l103, x107⟩ xx119 σ117 W118 hk122 ⟨φ124, A104, c105, fi123, f127, f128, f129, f130, f131, f132, f133, le125, hS126⟩ hx120
    try dsimp only at hx120
    have c134 : Hid ((↑k108 : Int) < p0) := Hid.mk (lp_lt0 hk122)
    replace hk122 := Hid.mk hk122
    have hi135 : Hid (w64 ((↑k108 : Int) + 1) = (↑(k108 + 1) : Int)) := Hid.mk (by have h1 := hle111.out; have h2 := c134.out; rw [w64_in] <;> omega)
    refine CK.seq ?_
    refine CK.seq ?_
    refine CK.reg (ks := []) (.fl 0 (.fl 1 (.fl 2 (.nil)))) rfl ?_
    refine OKS.rm rfl rfl rfl rfl rfl fi123 ?_
    refine OKS.rm rfl rfl rfl rfl rfl f127 ?_
    refine OKS.r rfl rfl rfl rfl (fun _ => Runs.lss rfl rfl rfl) ?_
    refine OKS.e ?_
    refine thenQ_n ?_
    refine CK.condT (decT c134.out) ?_
    refine CK.skip ?_
    refine thenQ_n ?_
    refine CK.seq ?_
    refine CK.block ?_
    refine CK.seq ?_
    refine CK.reg (ks := []) (.fl 0 (.fl 1 (.fl 2 (.fx 3 (.fx 4 (.fl 5 (.nil)) .stop) .stop)))) rfl ?_
    refine OKS.rm rfl rfl rfl rfl rfl f132 ?_
    refine OKS.rm rfl rfl rfl rfl rfl f133 ?_
    have q := bnd hx120
    obtain ⟨x136, h137, hm138⟩ := q
    refine OKS.r rfl rfl rfl rfl (fun _ => Runs.rem rfl rfl rfl h137) ?_
    refine OKS.buildSlice (pv := [(0, .int .i64 x136)]) (zs := [.int .i64 0]) (cs := [.int .i64 x136]) rfl rfl rfl rfl rfl (mapcons2 rfl mapnil2) Try.runUnderlying22 Try.sizeOf3 Try.zeroValue3 rfl rfl rfl rfl rfl hS126 ?_
    intro W139 b140 hS141
    have hS143 : St ⟨w, [], φ⟩ φ124 [.row (some ⟨b140, 0, none⟩) 1 3 1 (List.flatMap encI [x136]), .row A58 c59 22 1 cs61, .row A104 c105 3 1 (List.flatMap encI l103)] W139 := hS141
    have q := bnd hm138
    obtain ⟨x144, h145, hm146⟩ := q
    refine OKS.append (j := 2) (enc := encI) (xs := l103) (ys := [x136]) (zs := x144) rfl rfl rfl rfl rfl Try.underlying22 info3 rfl rfl rfl rfl rfl rfl hS143 rfl rfl rfl (hS143.srcR (j := 0) rfl (by decide) (flatMap_len (f := encI) (sz := 1) (fun _ => rfl) [x136])) (fun _ => rfl) (fun _ => rfl) h145 rfl ?_
    intro A147 c148 W149 hS150
    have hS151 : St ⟨w, [], φ⟩ φ124 [.row (some ⟨b140, 0, none⟩) 1 3 1 (List.flatMap encI [x136]), .row A58 c59 22 1 cs61, .row A147 c148 3 1 (List.flatMap encI x144)] W149 := hS150
    refine OKS.ra rfl rfl rfl rfl rfl rfl ?_
    refine OKS.e ?_
    refine thenQ_n ?_
    refine CK.reg (ks := []) (.fl 0 (.fl 1 (.fl 2 (.nil)))) rfl ?_
    refine OKS.rm rfl rfl rfl rfl rfl f133 ?_
    have q := bnd hm146
    obtain ⟨x152, h153, hm154⟩ := q
    refine OKS.r rfl rfl rfl rfl (fun _ => Runs.quo rfl rfl rfl h153) ?_
    refine OKS.ra rfl rfl rfl rfl rfl rfl ?_
    refine OKS.e ?_
    refine blockQ_n ?_
    refine thenQ_n ?_
    refine CK.reg (ks := []) (.fl 0 (.fl 1 (.fl 2 (.nil)))) rfl ?_
    refine OKS.rm rfl rfl rfl rfl rfl fi123 ?_
    refine OKS.r rfl rfl rfl rfl (fun _ => Runs.to (Runs.addw rfl rfl rfl) (congrArg (Value.int .i64) hi135.out)) ?_
    refine OKS.ra rfl rfl rfl rfl rfl rfl ?_
    refine OKS.e ?_
    cases hm154
    exact thenQ_n ⟨rfl, ⟨φ124, A147, c148, rfl, f127, f128, f129, f130, f131, rfl, rfl, le125, (hS151.pick [1, 2] _ (by decide) rfl)⟩⟩
   ·rintro σ159 W160 ⟨φ169, A167, c168, fi162, f172, f173, f174, f175, f176, f177, f178, le170, hS171⟩
    have c179 : Hid (¬ ((↑((p0 : Int) - 0).toNat : Int) < p0)) := Hid.mk (lp_end0)
    refine CK.seq ?_
    refine CK.seq ?_
    refine CK.reg (ks := []) (.fl 0 (.fl 1 (.fl 2 (.nil)))) rfl ?_
    refine OKS.rm rfl rfl rfl rfl rfl fi162 ?_
    refine OKS.rm rfl rfl rfl rfl rfl f172 ?_
    refine OKS.r rfl rfl rfl rfl (fun _ => Runs.lss rfl rfl rfl) ?_
    refine OKS.e ?_
    refine thenQ_n ?_
    refine CK.condF (decF c179.out) ?_
    refine CK.exit ?_
    refine thenQ_e ?_
    refine thenQ_e ?_
    refine blockQ_h ?_
    refine thenQ_n ?_
    refine CK.seq ?_
    refine CK.reg (ks := []) (.fl 0 (.nil)) rfl ?_
    refine OKS.ra rfl rfl rfl rfl rfl rfl ?_
    refine OKS.e ?_
    refine thenQ_n ?_
    refine CK.seq ?_
    refine CK.seq ?_
    refine CK.reg (ks := []) (.fl 0 (.nil)) rfl ?_
    refine OKS.ra rfl rfl rfl rfl rfl rfl ?_
    refine OKS.e ?_
    refine thenQ_n ?_
    refine CK.block ?_
    refine CK.iter (fun (b186, x187) σ_ w_ => ∃ (φ_ : PHeap), σ_ 0 = .int .i64 p0 ∧ σ_ 1 = .slice pA1 p1.length pc1 ∧ σ_ 5 = .int .i64 y12 ∧ σ_ 7 = .slice A58 l57.length c59 ∧ σ_ 8 = .int .i64 (↑k62 : Int) ∧ σ_ 9 = .slice A167 y113.length c168 ∧ σ_ 12 = .bool b186 ∧ σ_ 13 = .int .i64 x187 ∧ PHeap.Le φ169 φ_ ∧ St ⟨w, [], φ⟩ φ_ [.row A58 c59 22 1 cs61, .row A167 c168 3 1 (List.flatMap encI y113)] w_) hm109 ?_ ?_
    ·exact ⟨φ169, f172, f173, f174, f175, f176, f177, rfl, rfl, (PHeap.Le.refl _), hS171⟩
    ·rintro ⟨b186, x187⟩ xx190 σ188 W189 ⟨φ195, f198, f199, f200, f201, f202, f203, f204, f205, le196, hS197⟩ hx191 hb192
     try dsimp only at hx191
     refine CK.seq ?_
     refine CK.seq ?_
     refine CK.reg (ks := []) (.fl 0 (.fl 1 (.fl 2 (.fl 3 (.fl 4 (.fl 5 (.fl 6 (.nil)))))))) rfl ?_
     refine OKS.rm rfl rfl rfl rfl rfl f205 ?_
     refine OKS.rm rfl rfl rfl rfl rfl f199 ?_
     refine OKS.r rfl rfl rfl rfl (fun _ => Runs.len rfl rfl Try.runUnderlying36) ?_
     refine OKS.r rfl rfl rfl rfl (fun _ => Runs.lss rfl rfl rfl) ?_
     refine OKS.rm rfl rfl rfl rfl rfl rfl ?_
     by_cases c206 : x187 < (↑p1.length : Int)
     ·have hm207 := hx191; rw [if_pos c206] at hm207; replace c206 := Hid.mk c206
      refine OKS.rm rfl rfl rfl (wantedY rfl rfl (decT c206.out)) rfl f204 ?_
      refine OKS.r rfl rfl rfl rfl (fun _ => Runs.pickT rfl (decT c206.out) rfl) ?_
      refine OKS.e ?_
      refine thenQ_n ?_
      by_cases c208 : b186 = true
      ·have hm209 := hm207; rw [if_pos c208] at hm209; replace c208 := Hid.mk c208
       refine CK.condT (congrArg Value.bool c208.out) ?_
       refine CK.skip ?_
       refine thenQ_n ?_
       refine CK.seq ?_
       refine CK.block ?_
       refine CK.seq ?_
       refine CK.reg (ks := []) (.fl 0 (.nil)) rfl ?_
       refine OKS.ra rfl rfl rfl rfl rfl rfl ?_
       refine OKS.e ?_
       refine thenQ_n ?_
       refine CK.seq ?_
       refine CK.seq ?_
       refine CK.reg (ks := []) (.fl 0 (.fl 1 (.fl 2 (.fl 3 (.fl 4 (.fl 5 (.nil))))))) rfl ?_
       refine OKS.rm rfl rfl rfl rfl rfl f199 ?_
       refine OKS.rm rfl rfl rfl rfl rfl f205 ?_
       have q := bnd hm209
       obtain ⟨x210, h211, hm212⟩ := q
       have h213 := ha0.le le35
       have h214 := h213.le le78
       have h215 := h214.le le170
       have h216 := h215.le le196
       have q := h216.el (fun _ => rfl) (idx_get h211)
       obtain ⟨b217, off218, hA219, hC220⟩ := q
       refine OKS.r rfl rfl rfl rfl (fun _ => Runs.iaI rfl rfl hA219 rfl Try.runUnderlying36 Try.sizeOf121 (idx_lo h211) (idx_hi h211)) ?_
       refine OKS.r rfl rfl rfl rfl (fun _ => Runs.fa rfl rfl Try.runUnderlying121 rfl Try.sizeOf3) ?_
       refine OKS.m rfl rfl rfl rfl (hS197.ldC (f := 0) hC220 (v := .int .i64 x210.From) rfl rfl Try.isAgg3 rfl) rfl ?_
       refine OKS.ra rfl rfl rfl rfl rfl rfl ?_
       refine OKS.e ?_
       refine thenQ_n ?_
       refine CK.block ?_
       refine CK.iter (fun (x227, x228) σ_ w_ => ∃ (φ_ : PHeap), σ_ 0 = .int .i64 p0 ∧ σ_ 1 = .slice pA1 p1.length pc1 ∧ σ_ 5 = .int .i64 y12 ∧ σ_ 7 = .slice A58 l57.length c59 ∧ σ_ 8 = .int .i64 (↑k62 : Int) ∧ σ_ 9 = .slice A167 y113.length c168 ∧ σ_ 13 = .int .i64 x187 ∧ σ_ 14 = .int .i64 x227 ∧ σ_ 15 = .int .i64 x228 ∧ PHeap.Le φ195 φ_ ∧ St ⟨w, [], φ⟩ φ_ [.row A58 c59 22 1 cs61, .row A167 c168 3 1 (List.flatMap encI y113)] w_) hm212 ?_ ?_
       ·exact ⟨φ195, f198, f199, f200, f201, f202, f203, f205, rfl, rfl, (PHeap.Le.refl _), hS197⟩
       ·rintro ⟨x227, x228⟩ xx231 σ229 W230 ⟨φ236, f239, f240, f241, f242, f243, f244, f245, f246, f247, le237, hS238⟩ hx232 hb233
        try dsimp only at hx232
        refine CK.seq ?_
        refine CK.seq ?_
        refine CK.reg (ks := []) (.fl 0 (.fl 1 (.fl 2 (.fl 3 (.fl 4 (.fl 5 (.fl 6 (.nil)))))))) rfl ?_
        refine OKS.rm rfl rfl rfl rfl rfl f247 ?_
        refine OKS.rm rfl rfl rfl rfl rfl f240 ?_
        refine OKS.rm rfl rfl rfl rfl rfl f245 ?_
        have h248 := h216.le le237
        have q := h248.el (fun _ => rfl) (idx_get h211)
        obtain ⟨b249, off250, hA251, hC252⟩ := q
        refine OKS.r rfl rfl rfl rfl (fun _ => Runs.iaI rfl rfl hA251 rfl Try.runUnderlying36 Try.sizeOf121 (idx_lo h211) (idx_hi h211)) ?_
        refine OKS.r rfl rfl rfl rfl (fun _ => Runs.fa rfl rfl Try.runUnderlying121 rfl Try.sizeOf3) ?_
        refine OKS.m rfl rfl rfl rfl (hS238.ldC (f := 1) hC252 (v := .int .i64 x210.To) rfl rfl Try.isAgg3 rfl) rfl ?_
        refine OKS.r rfl rfl rfl rfl (fun _ => Runs.leq rfl rfl rfl) ?_
        refine OKS.e ?_
        refine thenQ_n ?_
        by_cases c253 : x228 ≤ x210.To
        ·have hm254 := hx232; rw [if_pos c253] at hm254; replace c253 := Hid.mk c253
         refine CK.condT (decT c253.out) ?_
         refine CK.skip ?_
         refine thenQ_n ?_
         refine CK.seq ?_
         refine CK.block ?_
         refine CK.reg (ks := []) (.fl 0 (.fl 1 (.fl 2 (.fl 3 (.fl 4 (.fl 5 (.fl 6 (.nil)))))))) rfl ?_
         refine OKS.rm rfl rfl rfl rfl rfl f246 ?_
         refine OKS.rm rfl rfl rfl rfl rfl f244 ?_
         refine OKS.rm rfl rfl rfl rfl rfl f247 ?_
         have q := bnd hm254
         obtain ⟨_, h255, hm256⟩ := q
         obtain ⟨b257, hA258⟩ := hS238.rowSome (j := 1) rfl (by rw [flatMap_len (f := encI) (sz := 1) (fun _ => rfl) y113]; have hz := chk_lt h255; omega)
         refine OKS.r rfl rfl rfl rfl (fun _ => Runs.iaI rfl rfl hA258 rfl Try.runUnderlying22 Try.sizeOf3 (chk_lo h255) (chk_hi h255)) ?_
         have hg259 := gd_at (xs := y113) (chk_lt h255)
         refine OKS.m rfl rfl rfl rfl (hS238.ldR (j := 1) rfl hA258 rfl rfl Try.isAgg3 (flatMap_cell (sz := 1) (fun _ => rfl) _ _ 0 _ hg259 (by first | omega | rfl) rfl)) rfl ?_
         refine OKS.r rfl rfl rfl rfl (fun _ => Runs.addw rfl rfl rfl) ?_
         refine OKS.ra rfl rfl rfl rfl rfl rfl ?_
         refine OKS.e ?_
         refine blockQ_n ?_
         refine thenQ_n ?_
         refine CK.reg (ks := []) (.fl 0 (.fl 1 (.fl 2 (.nil)))) rfl ?_
         refine OKS.rm rfl rfl rfl rfl rfl f247 ?_
         refine OKS.r rfl rfl rfl rfl (fun _ => Runs.addw rfl rfl rfl) ?_
         refine OKS.ra rfl rfl rfl rfl rfl rfl ?_
         refine OKS.e ?_
         obtain rfl := Option.some.inj hm256
         exact thenQ_n ⟨rfl, _, rfl, ⟨φ236, f239, f240, f241, f242, f243, f244, f245, rfl, rfl, le237, hS238⟩⟩
        ·have hm262 := hx232; rw [if_neg c253] at hm262; replace c253 := Hid.mk c253
         refine CK.condF (decF c253.out) ?_
         refine CK.exit ?_
         refine thenQ_e ?_
         have q := esc_spec hm262
         obtain ⟨v263, hm264, e265⟩ := q
         obtain rfl := hb233 v263 e265
         refine thenQ_e ?_
         refine blockQ_h ?_
         refine thenQ_n ?_
         refine CK.anyOrd Try.mixed [3, 3, 3, 3, 3, 3, 1, 3, 3, 3, 3, 3, 1, 2, 3, 3] (.fl 0 (.fl 1 (.fl 2 (.fl 3 (.fl 4 (.fl 5 (.fl 6 (.fl 7 (.fl 8 (.fl 9 (.fl 10 (.fl 11 (.fl 12 (.fx 13 (.fl 14 (.fl 15 (.nil))) .stop)))))))))))))) (by kernel_rfl) ?_
         have hS266 := hS238.drew
         generalize hw_W267 : ({ W230 with drawn := W230.drawn + 1 } : World) = W267 at hS266 ⊢
         refine OKS.rm rfl rfl rfl rfl rfl f246 ?_
         refine OKS.rm rfl rfl rfl rfl rfl f240 ?_
         refine OKS.rm rfl rfl rfl rfl rfl f245 ?_
         have q := h248.el (fun _ => rfl) (idx_get h211)
         obtain ⟨b268, off269, hA270, hC271⟩ := q
         refine OKS.r rfl rfl rfl rfl (fun _ => Runs.iaI rfl rfl hA270 rfl Try.runUnderlying36 Try.sizeOf121 (idx_lo h211) (idx_hi h211)) ?_
         refine OKS.r rfl rfl rfl rfl (fun _ => Runs.fa rfl rfl Try.runUnderlying121 rfl Try.sizeOf29) ?_
         refine OKS.r rfl rfl rfl rfl (fun _ => Runs.fa rfl rfl Try.runUnderlying29 rfl Try.sizeOf3) ?_
         refine OKS.m rfl rfl rfl rfl (hS266.ldC (f := 2) hC271 (v := .int .i64 x210.Loops.Lo) rfl rfl Try.isAgg3 rfl) rfl ?_
         refine OKS.rm rfl rfl rfl rfl rfl f240 ?_
         refine OKS.rm rfl rfl rfl rfl rfl f245 ?_
         have q := h248.el (fun _ => rfl) (idx_get h211)
         obtain ⟨b272, off273, hA274, hC275⟩ := q
         refine OKS.r rfl rfl rfl rfl (fun _ => Runs.iaI rfl rfl hA274 rfl Try.runUnderlying36 Try.sizeOf121 (idx_lo h211) (idx_hi h211)) ?_
         refine OKS.r rfl rfl rfl rfl (fun _ => Runs.fa rfl rfl Try.runUnderlying121 rfl Try.sizeOf29) ?_
         refine OKS.r rfl rfl rfl rfl (fun _ => Runs.fa rfl rfl Try.runUnderlying29 rfl Try.sizeOf3) ?_
         refine OKS.m rfl rfl rfl rfl (hS266.ldC (f := 3) hC275 (v := .int .i64 x210.Loops.Hi) rfl rfl Try.isAgg3 rfl) rfl ?_
         have q := bnd hm264
         obtain ⟨x276, h277, hm278⟩ := q
         refine OKS.callH 0 rfl rfl rfl rfl (Enters.mk rfl rfl Try.call71 (mapcons rfl (mapcons rfl (mapcons rfl mapnil))) rfl) hS266 (fun hs => w_klisterref03_outside x227 x210.Loops.Lo x210.Loops.Hi W267 φ236 hs h277) (.inr rfl) ?_
         rintro φ279 L280 v281 W282 le283 hS284 ⟨rfl, rfl⟩
         have hS285 : St ⟨w, [], φ⟩ φ279 [.row A58 c59 22 1 cs61, .row A167 c168 3 1 (List.flatMap encI y113)] W282 := hS284
         refine OKS.r rfl rfl rfl rfl (fun _ => Runs.notT rfl rfl) ?_
         refine OKS.ra rfl rfl rfl rfl rfl rfl ?_
         refine OKS.e ?_
         refine blockQ_n ?_
         refine thenQ_n ?_
         refine CK.reg (ks := []) (.fl 0 (.fl 1 (.fl 2 (.nil)))) rfl ?_
         refine OKS.rm rfl rfl rfl rfl rfl f245 ?_
         refine OKS.r rfl rfl rfl rfl (fun _ => Runs.addw rfl rfl rfl) ?_
         refine OKS.ra rfl rfl rfl rfl rfl rfl ?_
         refine OKS.e ?_
         obtain rfl := Option.some.inj hm278
         exact thenQ_n ⟨rfl, _, rfl, ⟨φ279, f239, f240, f241, f242, f243, f244, rfl, rfl, ((le196.trans le237).trans le283), hS285⟩⟩
      ·have hm288 := hm207; rw [if_neg c208] at hm288; replace c208 := Hid.mk c208
       refine CK.condF (congrArg Value.bool (Bool.eq_false_iff.2 c208.out)) ?_
       refine CK.exit ?_
       refine thenQ_e ?_
       have q := esc_spec hm288
       obtain ⟨v289, hm290, e291⟩ := q
       obtain rfl := hb192 v289 e291
       refine thenQ_e ?_
       refine blockQ_h ?_
       refine thenQ_n ?_
       refine CK.seq ?_
       refine CK.reg (ks := []) (.fl 0 (.nil)) rfl ?_
       refine OKS.rm rfl rfl rfl rfl rfl f204 ?_
       refine OKS.e ?_
       refine thenQ_n ?_
       refine CK.condF (congrArg Value.bool (Bool.eq_false_iff.2 c208.out)) ?_
       refine CK.skip ?_
       refine blockQ_n ?_
       refine thenQ_n ?_
       refine CK.reg (ks := []) (.fl 0 (.fl 1 (.fl 2 (.nil)))) rfl ?_
       refine OKS.rm rfl rfl rfl rfl rfl f202 ?_
       refine OKS.r rfl rfl rfl rfl (fun _ => Runs.to (Runs.addw rfl rfl rfl) (congrArg (Value.int .i64) hi86.out)) ?_
       refine OKS.ra rfl rfl rfl rfl rfl rfl ?_
       refine OKS.e ?_
       cases hm290
       have h296 := h84.le le170
       have h297 := h296.le le196
       exact thenQ_n ⟨rfl, ⟨φ195, A58, c59, cs61, rfl, f198, f199, f200, f201, ((le78.trans le170).trans le196), (hS197.pick [0] _ (by decide) rfl), h297⟩⟩
     ·have hm298 := hx191; rw [if_neg c206] at hm298; replace c206 := Hid.mk c206
      refine OKS.p rfl rfl rfl (wantedN rfl rfl (decF c206.out) rfl) ?_
      refine OKS.r rfl rfl rfl rfl (fun _ => Runs.pickF rfl (decF c206.out) rfl) ?_
      refine OKS.e ?_
      refine thenQ_n ?_
      refine CK.condF rfl ?_
      refine CK.exit ?_
      refine thenQ_e ?_
      have q := esc_spec hm298
      obtain ⟨v299, hm300, e301⟩ := q
      obtain rfl := hb192 v299 e301
      refine thenQ_e ?_
      refine blockQ_h ?_
      refine thenQ_n ?_
      refine CK.seq ?_
      refine CK.reg (ks := []) (.fl 0 (.nil)) rfl ?_
      refine OKS.rm rfl rfl rfl rfl rfl f204 ?_
      refine OKS.e ?_
      refine thenQ_n ?_
      by_cases c302 : b186 = true
      ·have hm303 := hm300; rw [if_pos c302] at hm303; replace c302 := Hid.mk c302
       refine CK.condT (congrArg Value.bool c302.out) ?_
       refine CK.reg (ks := []) (.fl 0 (.fl 1 (.fx 2 (.fx 3 (.fl 4 (.nil)) .stop) .stop))) rfl ?_
       refine OKS.rm rfl rfl rfl rfl rfl f201 ?_
       refine OKS.rm rfl rfl rfl rfl rfl f203 ?_
       have q := hS197.freezeR (k := 1) (n := y113.length) rfl (flatMap_len (f := encI) (sz := 1) (fun _ => rfl) y113) (by decide)
       obtain ⟨φ307, le308, hs309, hS310⟩ := q
       have hS311 : St ⟨w, [], φ⟩ φ307 [.row A58 c59 22 1 cs61] W189 := hS310
       refine OKS.buildSlice (pv := [(0, .slice A167 y113.length c168)]) (zs := [.slice none 0 0]) (cs := [.slice A167 y113.length c168]) rfl rfl rfl rfl rfl (mapcons2 rfl mapnil2) Try.runUnderlying49 Try.sizeOf22 Try.zeroValue22 rfl rfl rfl rfl rfl hS311 ?_
       intro W304 b305 hS306
       have hr313 : RlL φ307 rl22 [y113] [.slice A167 y113.length c168] := (RlL.cons (R := rl22) (x := y113) (vs := [.slice A167 y113.length c168]) ⟨A167, c168, rfl, hs309⟩ RlL.nil)
       have hS314 : St ⟨w, [], φ⟩ φ307 [.row (some ⟨b305, 0, none⟩) 1 22 1 [.slice A167 y113.length c168], .row A58 c59 22 1 cs61] W304 := hS306
       have q := bnd hm303
       obtain ⟨x315, h316, hm317⟩ := q
       have h324 := h84.le le170
       have h325 := h324.le le196
       have h326 := h325.le le308
       refine OKS.appendR (R := rl22) (j := 1) (xs := l57) (ys := [y113]) (zs := x315) rfl rfl rfl rfl rfl Try.underlying49 info22 rfl rfl rfl rfl rfl rfl rfl hS314 rfl rfl rfl h326 hr313 (hS314.srcR (j := 0) rfl (by decide) (RlL.len hr313)) h316 rfl ?_
       intro A318 c319 cs320 W321 hS322 hr323
       have hS327 : St ⟨w, [], φ⟩ φ307 [.row (some ⟨b305, 0, none⟩) 1 22 1 [.slice A167 y113.length c168], .row A318 c319 22 1 cs320] W321 := hS322
       refine OKS.ra rfl rfl rfl rfl rfl rfl ?_
       refine OKS.e ?_
       refine blockQ_n ?_
       refine thenQ_n ?_
       refine CK.reg (ks := []) (.fl 0 (.fl 1 (.fl 2 (.nil)))) rfl ?_
       refine OKS.rm rfl rfl rfl rfl rfl f202 ?_
       refine OKS.r rfl rfl rfl rfl (fun _ => Runs.to (Runs.addw rfl rfl rfl) (congrArg (Value.int .i64) hi86.out)) ?_
       refine OKS.ra rfl rfl rfl rfl rfl rfl ?_
       refine OKS.e ?_
       cases hm317
       exact thenQ_n ⟨rfl, ⟨φ307, A318, c319, cs320, rfl, f198, f199, f200, rfl, (((le78.trans le170).trans le196).trans le308), (hS327.pick [1] _ (by decide) rfl), hr323⟩⟩
      ·have hm332 := hm300; rw [if_neg c302] at hm332; replace c302 := Hid.mk c302
       refine CK.condF (congrArg Value.bool (Bool.eq_false_iff.2 c302.out)) ?_
       refine CK.skip ?_
       refine blockQ_n ?_
       refine thenQ_n ?_
       refine CK.reg (ks := []) (.fl 0 (.fl 1 (.fl 2 (.nil)))) rfl ?_
       refine OKS.rm rfl rfl rfl rfl rfl f202 ?_
       refine OKS.r rfl rfl rfl rfl (fun _ => Runs.to (Runs.addw rfl rfl rfl) (congrArg (Value.int .i64) hi86.out)) ?_
       refine OKS.ra rfl rfl rfl rfl rfl rfl ?_
       refine OKS.e ?_
       cases hm332
       have h337 := h84.le le170
       have h338 := h337.le le196
       exact thenQ_n ⟨rfl, ⟨φ195, A58, c59, cs61, rfl, f198, f199, f200, f201, ((le78.trans le170).trans le196), (hS197.pick [0] _ (by decide) rfl), h338⟩⟩
  ·rintro σ339 W340 ⟨φ350, A347, c348, c349, fi342, f353, f354, f355, f356, le351, hS352, h357⟩
   have c358 : Hid (¬ ((↑((y12 : Int) - 0).toNat : Int) < y12)) := Hid.mk (lp_end0)
   refine CK.seq ?_
   refine CK.seq ?_
   refine CK.reg (ks := []) (.fl 0 (.fl 1 (.fl 2 (.nil)))) rfl ?_
   refine OKS.rm rfl rfl rfl rfl rfl fi342 ?_
   refine OKS.rm rfl rfl rfl rfl rfl f355 ?_
   refine OKS.r rfl rfl rfl rfl (fun _ => Runs.lss rfl rfl rfl) ?_
   refine OKS.e ?_
   refine thenQ_n ?_
   refine CK.condF (decF c358.out) ?_
   refine CK.exit ?_
   refine thenQ_e ?_
   refine thenQ_e ?_
   refine blockQ_h ?_
   refine thenQ_n ?_
   refine CK.seq ?_
   refine CK.reg (ks := []) (.fl 0 (.fl 1 (.nil))) rfl ?_
   refine OKS.rm rfl rfl rfl rfl rfl f356 ?_
   refine OKS.ra rfl rfl rfl rfl rfl rfl ?_
   refine OKS.e ?_
   refine thenQ_n ?_
   refine CK.ret ?_
   cases hm63
   exact ⟨rfl, _, (res1 rfl), φ350, _, hS352, A347, c348, c349, rfl, rfl, h357⟩

set_option maxHeartbeats 4000000 in
theorem w_klisterref03_Few (p0 : List Int) (pA0 : Option Addr) (pc0 : Nat) (p1 : List T_klisterref03_Sheet) (pA1 : Option Addr) (pc1 : Nat) (w : World) (φ : PHeap) (hS : St ⟨w, [], φ⟩ φ [] w) (ha0 : Sl φ 1 pA0 pc0 p0.length (List.flatMap encI p0)) (ha1 : Sl φ 4 pA1 pc1 p1.length (List.flatMap encT_klisterref03_Sheet p1)) {r : Bool × Int} (hm : m_klisterref03_Few p0 p1 = some r) : Gv Try.prog 16 [.slice pA0 p0.length pc0, .slice pA1 p1.length pc1] w (RetS w [] φ (fun φ_ L_ v => v = .tuple #[.bool r.1, .int .i64 r.2] ∧ L_ = [])) := by
 unfold m_klisterref03_Few at hm
 refine Gv.of Try.func16 rfl Try.ntmps16 Try.results16 rfl ?_
 refine CK.seq ?_
 refine CK.reg (ks := []) (.fl 0 (.fl 1 (.nil))) rfl ?_
 refine OKS.ra rfl rfl rfl rfl rfl rfl ?_
 refine OKS.ra rfl rfl rfl rfl rfl rfl ?_
 refine OKS.e ?_
 refine thenQ_n ?_
 refine CK.seq ?_
 refine CK.seq ?_
 refine CK.reg (ks := []) (.fl 0 (.fl 1 (.fx 2 (.fl 3 (.nil)) .stop))) rfl ?_
 refine OKS.rm rfl rfl rfl rfl rfl rfl ?_
 refine OKS.rm rfl rfl rfl rfl rfl rfl ?_
 have q := bnd hm
 obtain ⟨x1, h2, hm3⟩ := q
 refine OKS.callH 0 rfl rfl rfl rfl (Enters.mk rfl rfl Try.call67 (mapcons rfl (mapcons rfl mapnil)) rfl) hS (fun hs => w_klisterref03_Owed p0 pA0 pc0 p1 pA1 pc1 w φ hs ha0 ha1 h2) (.inr rfl) ?_
 rintro φ4 L5 v6 W7 le8 hS9 ⟨rfl, rfl⟩
 have hS10 : St ⟨w, [], φ⟩ φ4 [] W7 := hS9
 refine OKS.ra rfl rfl rfl rfl rfl rfl ?_
 refine OKS.e ?_
 refine thenQ_n ?_
 refine CK.seq ?_
 refine CK.reg (ks := []) (.fl 0 (.fl 1 (.nil))) rfl ?_
 refine OKS.rm rfl rfl rfl rfl rfl rfl ?_
 refine OKS.r rfl rfl rfl rfl (fun _ => Runs.neq rfl rfl rfl) ?_
 refine OKS.e ?_
 refine thenQ_n ?_
 by_cases c11 : x1 = 0
 ·have hm12 := hm3; rw [if_pos c11] at hm12; replace c11 := Hid.mk c11
  refine CK.condF (decF (fun h => h c11.out)) ?_
  refine CK.skip ?_
  refine thenQ_n ?_
  refine CK.seq ?_
  refine CK.reg (ks := []) (.fl 0 (.fl 1 (.fl 2 (.fx 3 (.fl 4 (.nil)) .stop)))) rfl ?_
  refine OKS.rm rfl rfl rfl rfl rfl rfl ?_
  refine OKS.r rfl rfl rfl rfl (fun _ => Runs.len rfl rfl Try.runUnderlying22) ?_
  refine OKS.rm rfl rfl rfl rfl rfl rfl ?_
  have h13 := ha1.le le8
  have q := bnd hm12
  obtain ⟨x14, h15, hm16⟩ := q
  refine OKS.callH 0 rfl rfl rfl rfl (Enters.mk rfl rfl Try.call21 (mapcons rfl (mapcons rfl mapnil)) rfl) hS10 (fun hs => w_klisterref03_Truths (↑p0.length : Int) p1 pA1 pc1 W7 φ4 hs h13 h15) (.inr rfl) ?_
  rintro φ17 L18 v19 W20 le21 hS22 ⟨A23, c24, c25, rfl, rfl, h27⟩
  have hS28 : St ⟨w, [], φ⟩ φ17 [.row A23 c24 22 1 c25] W20 := hS22
  refine OKS.ra rfl rfl rfl rfl rfl rfl ?_
  refine OKS.e ?_
  refine thenQ_n ?_
  refine CK.seq ?_
  refine CK.seq ?_
  refine CK.reg (ks := []) (.fl 0 (.nil)) rfl ?_
  refine OKS.ra rfl rfl rfl rfl rfl rfl ?_
  refine OKS.e ?_
  refine thenQ_n ?_
  refine CK.block ?_
  have q := hS28.freezeRR (R := rl22) (k := 0) rfl h27 rfl (by decide)
  obtain ⟨φ30, le31, hs32, hS33⟩ := q
  have hS34 : St ⟨w, [], φ⟩ φ30 [] W20 := hS33
  have q := jn_some hm16
  obtain ⟨r37, hX38⟩ := q
  have q := forR_le hX38
  obtain ⟨hle39, hf40⟩ := q
  replace hle39 := Hid.mk hle39
  refine CK.forN (fun k36 _ σ_ w_ => ∃ (φ_ : PHeap), σ_ 8 = .int .i64 (↑k36 : Int) ∧ σ_ 0 = .slice pA0 p0.length pc0 ∧ σ_ 7 = .slice A23 x14.length c24 ∧ PHeap.Le φ30 φ_ ∧ St ⟨w, [], φ⟩ φ_ [] w_) hf40 ?_ ?_ ?_
  ·exact ⟨φ30, rfl, rfl, rfl, (PHeap.Le.refl _), hS34⟩
  ·rintro k36 ⟨⟩ xx43 σ41 W42 hk46 ⟨φ48, fi47, f51, f52, le49, hS50⟩ hx44 hb45
   try dsimp only at hx44
   have c53 : Hid ((↑k36 : Int) < (↑x14.length : Int)) := Hid.mk (lp_lt0 hk46)
   replace hk46 := Hid.mk hk46
   have hi54 : Hid (w64 ((↑k36 : Int) + 1) = (↑(k36 + 1) : Int)) := Hid.mk (by have h1 := hle39.out; have h2 := c53.out; rw [w64_in] <;> omega)
   refine CK.seq ?_
   refine CK.seq ?_
   refine CK.reg (ks := []) (.fl 0 (.fl 1 (.fl 2 (.fl 3 (.nil))))) rfl ?_
   refine OKS.rm rfl rfl rfl rfl rfl fi47 ?_
   refine OKS.rm rfl rfl rfl rfl rfl f52 ?_
   refine OKS.r rfl rfl rfl rfl (fun _ => Runs.len rfl rfl Try.runUnderlying49) ?_
   refine OKS.r rfl rfl rfl rfl (fun _ => Runs.lss rfl rfl rfl) ?_
   refine OKS.e ?_
   refine thenQ_n ?_
   refine CK.condT (decT c53.out) ?_
   refine CK.skip ?_
   refine thenQ_n ?_
   refine CK.seq ?_
   refine CK.block ?_
   refine CK.seq ?_
   refine CK.reg (ks := []) (.fl 0 (.nil)) rfl ?_
   refine OKS.ra rfl rfl rfl rfl rfl rfl ?_
   refine OKS.e ?_
   refine thenQ_n ?_
   refine CK.seq ?_
   refine CK.seq ?_
   refine CK.reg (ks := []) (.fl 0 (.nil)) rfl ?_
   refine OKS.ra rfl rfl rfl rfl rfl rfl ?_
   refine OKS.e ?_
   refine thenQ_n ?_
   refine CK.block ?_
   have q := bnd hx44
   obtain ⟨y66, hf63, hm62⟩ := q
   have q := forR'_le hf63
   obtain ⟨hle64, hf65⟩ := q
   replace hle64 := Hid.mk hle64
   refine CK.forN' (fun k61 b60 σ_ w_ => ∃ (φ_ : PHeap), σ_ 10 = .int .i64 (↑k61 : Int) ∧ σ_ 0 = .slice pA0 p0.length pc0 ∧ σ_ 7 = .slice A23 x14.length c24 ∧ σ_ 8 = .int .i64 (↑k36 : Int) ∧ σ_ 9 = .bool b60 ∧ PHeap.Le φ48 φ_ ∧ St ⟨w, [], φ⟩ φ_ [] w_) hf65 ?_ ?_ ?_
   ·exact ⟨φ48, rfl, f51, f52, fi47, rfl, (PHeap.Le.refl _), hS50⟩
   ·rintro k61 b60 xx69 σ67 W68 hk72 ⟨φ74, fi73, f77, f78, f79, f80, le75, hS76⟩ hx70
    have c81 : Hid ((↑k61 : Int) < (↑p0.length : Int)) := Hid.mk (lp_lt0 hk72)
    replace hk72 := Hid.mk hk72
    have hi82 : Hid (w64 ((↑k61 : Int) + 1) = (↑(k61 + 1) : Int)) := Hid.mk (by have h1 := hle64.out; have h2 := c81.out; rw [w64_in] <;> omega)
    refine CK.seq ?_
    refine CK.seq ?_
    refine CK.reg (ks := []) (.fl 0 (.fl 1 (.fl 2 (.fl 3 (.nil))))) rfl ?_
    refine OKS.rm rfl rfl rfl rfl rfl fi73 ?_
    refine OKS.rm rfl rfl rfl rfl rfl f77 ?_
    refine OKS.r rfl rfl rfl rfl (fun _ => Runs.len rfl rfl Try.runUnderlying22) ?_
    refine OKS.r rfl rfl rfl rfl (fun _ => Runs.lss rfl rfl rfl) ?_
    refine OKS.e ?_
    refine thenQ_n ?_
    refine CK.condT (decT c81.out) ?_
    refine CK.skip ?_
    refine thenQ_n ?_
    refine CK.seq ?_
    refine CK.block ?_
    refine CK.anyOrd Try.mixed [3, 3, 3, 3, 3, 1, 3, 3, 1, 3, 3, 3, 1, 3, 3, 3] (.fl 0 (.fl 1 (.fl 2 (.fl 3 (.fl 4 (.fl 5 (.fl 6 (.fl 7 (.fl 8 (.fl 9 (.fl 10 (.fl 11 (.fl 12 (.fl 13 (.fl 14 (.fl 15 (.nil))))))))))))))))) (by kernel_rfl) ?_
    have hS83 := hS76.drew
    generalize hw_W84 : ({ W68 with drawn := W68.drawn + 1 } : World) = W84 at hS83 ⊢
    refine OKS.rm rfl rfl rfl rfl rfl f80 ?_
    refine OKS.rm rfl rfl rfl rfl rfl rfl ?_
    by_cases c85 : b60 = true
    ·have hm86 := hx70; rw [if_pos c85] at hm86; replace c85 := Hid.mk c85
     refine OKS.rm rfl rfl rfl (wantedY rfl rfl (congrArg Value.bool c85.out)) rfl f78 ?_
     refine OKS.rm rfl rfl rfl (wantedY rfl rfl (congrArg Value.bool c85.out)) rfl f79 ?_
     have q := bnd hm86
     obtain ⟨x87, h88, hm89⟩ := q
     have h90 := hs32.le le49
     have h91 := h90.le le75
     have q := h91.el (idx_get h88)
     obtain ⟨b92, off93, vs96, hA94, hC95, hr97⟩ := q
     obtain ⟨pA98, pc99, rfl, h100⟩ := hr97
     replace hC95 : Cl φ74 b92 (off93 + k36 * 1) [.slice pA98 x87.length pc99] := hC95
     refine OKS.r rfl rfl rfl (wantedY rfl rfl (congrArg Value.bool c85.out)) (fun _ => Runs.iaN rfl rfl hA94 rfl Try.runUnderlying49 Try.sizeOf22 (idx_lt h88)) ?_
     refine OKS.m rfl rfl rfl (wantedY rfl rfl (congrArg Value.bool c85.out)) (hS83.ldC (f := 0) hC95 (v := .slice pA98 x87.length pc99) rfl rfl Try.isAgg22 rfl) rfl ?_
     refine OKS.rm rfl rfl rfl (wantedY rfl rfl (congrArg Value.bool c85.out)) rfl fi73 ?_
     have q := bnd hm89
     obtain ⟨x101, h102, hm103⟩ := q
     have q := h100.el (fun _ => rfl) (idx_get h102)
     obtain ⟨b104, off105, hA106, hC107⟩ := q
     refine OKS.r rfl rfl rfl (wantedY rfl rfl (congrArg Value.bool c85.out)) (fun _ => Runs.iaN rfl rfl hA106 rfl Try.runUnderlying22 Try.sizeOf3 (idx_lt h102)) ?_
     refine OKS.m rfl rfl rfl (wantedY rfl rfl (congrArg Value.bool c85.out)) (hS83.ldC (f := 0) hC107 (v := .int .i64 x101) rfl rfl Try.isAgg3 rfl) rfl ?_
     refine OKS.rm rfl rfl rfl (wantedY rfl rfl (congrArg Value.bool c85.out)) rfl f77 ?_
     refine OKS.rm rfl rfl rfl (wantedY rfl rfl (congrArg Value.bool c85.out)) rfl fi73 ?_
     have q := bnd hm103
     obtain ⟨x108, h109, hm110⟩ := q
     have h111 := ha0.le le8
     have h112 := h111.le le21
     have h113 := h112.le le31
     have h114 := h113.le le49
     have h115 := h114.le le75
     have q := h115.el (fun _ => rfl) (idx_get h109)
     obtain ⟨b116, off117, hA118, hC119⟩ := q
     refine OKS.r rfl rfl rfl (wantedY rfl rfl (congrArg Value.bool c85.out)) (fun _ => Runs.iaN rfl rfl hA118 rfl Try.runUnderlying22 Try.sizeOf3 (idx_lt h109)) ?_
     refine OKS.m rfl rfl rfl (wantedY rfl rfl (congrArg Value.bool c85.out)) (hS83.ldC (f := 0) hC119 (v := .int .i64 x108) rfl rfl Try.isAgg3 rfl) rfl ?_
     refine OKS.r rfl rfl rfl (wantedY rfl rfl (congrArg Value.bool c85.out)) (fun _ => Runs.geq rfl rfl rfl) ?_
     refine OKS.r rfl rfl rfl rfl (fun _ => Runs.pickT rfl (congrArg Value.bool c85.out) rfl) ?_
     refine OKS.ra rfl rfl rfl rfl rfl rfl ?_
     refine OKS.e ?_
     refine blockQ_n ?_
     refine thenQ_n ?_
     refine CK.reg (ks := []) (.fl 0 (.fl 1 (.fl 2 (.nil)))) rfl ?_
     refine OKS.rm rfl rfl rfl rfl rfl fi73 ?_
     refine OKS.r rfl rfl rfl rfl (fun _ => Runs.to (Runs.addw rfl rfl rfl) (congrArg (Value.int .i64) hi82.out)) ?_
     refine OKS.ra rfl rfl rfl rfl rfl rfl ?_
     refine OKS.e ?_
     cases hm110
     exact thenQ_n ⟨rfl, ⟨φ74, rfl, f77, f78, f79, rfl, le75, hS83⟩⟩
    ·have hm121 := hx70; rw [if_neg c85] at hm121; replace c85 := Hid.mk c85
     refine OKS.p rfl rfl rfl (wantedN rfl rfl (congrArg Value.bool (Bool.eq_false_iff.2 c85.out)) rfl) ?_
     refine OKS.p rfl rfl rfl (wantedN rfl rfl (congrArg Value.bool (Bool.eq_false_iff.2 c85.out)) rfl) ?_
     refine OKS.p rfl rfl rfl (wantedN rfl rfl (congrArg Value.bool (Bool.eq_false_iff.2 c85.out)) rfl) ?_
     refine OKS.p rfl rfl rfl (wantedN rfl rfl (congrArg Value.bool (Bool.eq_false_iff.2 c85.out)) rfl) ?_
     refine OKS.p rfl rfl rfl (wantedN rfl rfl (congrArg Value.bool (Bool.eq_false_iff.2 c85.out)) rfl) ?_
     refine OKS.p rfl rfl rfl (wantedN rfl rfl (congrArg Value.bool (Bool.eq_false_iff.2 c85.out)) rfl) ?_
     refine OKS.p rfl rfl rfl (wantedN rfl rfl (congrArg Value.bool (Bool.eq_false_iff.2 c85.out)) rfl) ?_
     refine OKS.p rfl rfl rfl (wantedN rfl rfl (congrArg Value.bool (Bool.eq_false_iff.2 c85.out)) rfl) ?_
     refine OKS.p rfl rfl rfl (wantedN rfl rfl (congrArg Value.bool (Bool.eq_false_iff.2 c85.out)) rfl) ?_
     refine OKS.p rfl rfl rfl (wantedN rfl rfl (congrArg Value.bool (Bool.eq_false_iff.2 c85.out)) rfl) ?_
     refine OKS.p rfl rfl rfl (wantedN rfl rfl (congrArg Value.bool (Bool.eq_false_iff.2 c85.out)) rfl) ?_
     refine OKS.p rfl rfl rfl (wantedN rfl rfl (congrArg Value.bool (Bool.eq_false_iff.2 c85.out)) rfl) ?_
     refine OKS.r rfl rfl rfl rfl (fun _ => Runs.pickF rfl (congrArg Value.bool (Bool.eq_false_iff.2 c85.out)) rfl) ?_
     refine OKS.ra rfl rfl rfl rfl rfl rfl ?_
     refine OKS.e ?_
     refine blockQ_n ?_
     refine thenQ_n ?_
     refine CK.reg (ks := []) (.fl 0 (.fl 1 (.fl 2 (.nil)))) rfl ?_
     refine OKS.rm rfl rfl rfl rfl rfl fi73 ?_
     refine OKS.r rfl rfl rfl rfl (fun _ => Runs.to (Runs.addw rfl rfl rfl) (congrArg (Value.int .i64) hi82.out)) ?_
     refine OKS.ra rfl rfl rfl rfl rfl rfl ?_
     refine OKS.e ?_
     cases hm121
     exact thenQ_n ⟨rfl, ⟨φ74, rfl, f77, f78, f79, rfl, le75, hS83⟩⟩
   ·rintro σ123 W124 ⟨φ128, fi126, f131, f132, f133, f134, le129, hS130⟩
    have c135 : Hid (¬ ((↑(((↑p0.length : Int) : Int) - 0).toNat : Int) < (↑p0.length : Int))) := Hid.mk (lp_end0)
    refine CK.seq ?_
    refine CK.seq ?_
    refine CK.reg (ks := []) (.fl 0 (.fl 1 (.fl 2 (.fl 3 (.nil))))) rfl ?_
    refine OKS.rm rfl rfl rfl rfl rfl fi126 ?_
    refine OKS.rm rfl rfl rfl rfl rfl f131 ?_
    refine OKS.r rfl rfl rfl rfl (fun _ => Runs.len rfl rfl Try.runUnderlying22) ?_
    refine OKS.r rfl rfl rfl rfl (fun _ => Runs.lss rfl rfl rfl) ?_
    refine OKS.e ?_
    refine thenQ_n ?_
    refine CK.condF (decF c135.out) ?_
    refine CK.exit ?_
    refine thenQ_e ?_
    refine thenQ_e ?_
    refine blockQ_h ?_
    refine thenQ_n ?_
    refine CK.seq ?_
    refine CK.reg (ks := []) (.fl 0 (.nil)) rfl ?_
    refine OKS.rm rfl rfl rfl rfl rfl f134 ?_
    refine OKS.e ?_
    refine thenQ_n ?_
    by_cases c136 : y66 = true
    ·have hm137 := hm62; rw [if_pos c136] at hm137; replace c136 := Hid.mk c136
     refine CK.condT (congrArg Value.bool c136.out) ?_
     refine CK.seq ?_
     refine CK.reg (ks := []) (.fl 0 (.fl 1 (.nil))) rfl ?_
     refine OKS.ra rfl rfl rfl rfl rfl rfl ?_
     refine OKS.ra rfl rfl rfl rfl rfl rfl ?_
     refine OKS.e ?_
     refine thenQ_n ?_
     refine CK.ret ?_
     refine blockQ_r ?_
     refine thenQ_r ?_
     have q := esc_spec hm137
     obtain ⟨v138, hm139, e140⟩ := q
     obtain rfl := jn_inr hm16 hX38 (hb45 v138 e140)
     refine thenQ_r ?_
     refine blockQ_r ?_
     refine thenQ_r ?_
     cases hm139
     exact ⟨rfl, _, (res2 rfl rfl), φ128, _, hS130, rfl, rfl⟩
    ·have hm141 := hm62; rw [if_neg c136] at hm141; replace c136 := Hid.mk c136
     refine CK.condF (congrArg Value.bool (Bool.eq_false_iff.2 c136.out)) ?_
     refine CK.skip ?_
     refine blockQ_n ?_
     refine thenQ_n ?_
     refine CK.reg (ks := []) (.fl 0 (.fl 1 (.fl 2 (.nil)))) rfl ?_
     refine OKS.rm rfl rfl rfl rfl rfl f133 ?_
     refine OKS.r rfl rfl rfl rfl (fun _ => Runs.to (Runs.addw rfl rfl rfl) (congrArg (Value.int .i64) hi54.out)) ?_
     refine OKS.ra rfl rfl rfl rfl rfl rfl ?_
     refine OKS.e ?_
     obtain rfl := Option.some.inj hm141
     exact thenQ_n ⟨rfl, _, rfl, ⟨φ128, rfl, f131, f132, (le49.trans le129), hS130⟩⟩
  ·rintro ⟨⟩ σ142 W143 ⟨φ146, fi145, f149, f150, le147, hS148⟩ hb144
   have hm151 := jn_inl hm16 hX38 hb144
   try dsimp only at hm151
   have c152 : Hid (¬ ((↑(((↑x14.length : Int) : Int) - 0).toNat : Int) < (↑x14.length : Int))) := Hid.mk (lp_end0)
   refine CK.seq ?_
   refine CK.seq ?_
   refine CK.reg (ks := []) (.fl 0 (.fl 1 (.fl 2 (.fl 3 (.nil))))) rfl ?_
   refine OKS.rm rfl rfl rfl rfl rfl fi145 ?_
   refine OKS.rm rfl rfl rfl rfl rfl f150 ?_
   refine OKS.r rfl rfl rfl rfl (fun _ => Runs.len rfl rfl Try.runUnderlying49) ?_
   refine OKS.r rfl rfl rfl rfl (fun _ => Runs.lss rfl rfl rfl) ?_
   refine OKS.e ?_
   refine thenQ_n ?_
   refine CK.condF (decF c152.out) ?_
   refine CK.exit ?_
   refine thenQ_e ?_
   refine thenQ_e ?_
   refine blockQ_h ?_
   refine thenQ_n ?_
   refine CK.seq ?_
   refine CK.reg (ks := []) (.fl 0 (.fl 1 (.nil))) rfl ?_
   refine OKS.ra rfl rfl rfl rfl rfl rfl ?_
   refine OKS.ra rfl rfl rfl rfl rfl rfl ?_
   refine OKS.e ?_
   refine thenQ_n ?_
   refine CK.ret ?_
   cases hm151
   exact ⟨rfl, _, (res2 rfl rfl), φ146, _, hS148, rfl, rfl⟩
 ·have hm153 := hm3; rw [if_neg c11] at hm153; replace c11 := Hid.mk c11
  refine CK.condT (decT c11.out) ?_
  refine CK.seq ?_
  refine CK.reg (ks := []) (.fl 0 (.fl 1 (.fl 2 (.nil)))) rfl ?_
  refine OKS.rm rfl rfl rfl rfl rfl rfl ?_
  refine OKS.ra rfl rfl rfl rfl rfl rfl ?_
  refine OKS.ra rfl rfl rfl rfl rfl rfl ?_
  refine OKS.e ?_
  refine thenQ_n ?_
  refine CK.ret ?_
  refine thenQ_r ?_
  cases hm153
  exact ⟨rfl, _, (res2 rfl rfl), φ4, _, hS10, rfl, rfl⟩

set_option maxHeartbeats 4000000 in
theorem w_target_RoundShows_1 (p0 : T_target_link) (pv0_3 : Value) (p1 : T_target_Step) (pb1 : Nat) (w : World) (φ : PHeap) (hS : St ⟨w, [], φ⟩ φ [] w) (ha0 : FnOK Try.prog φ pv0_3 ar132 rr132 p0.count) (ha1 : Cl φ pb1 0 [.int .i64 p1.Kind, .int .i64 p1.Index]) {r : Bool} (hm : m_target_RoundShows_1 p0 p1 = some r) : Gv Try.prog 70 [.agg #[.int .i64 p0.Step.Kind, .int .i64 p0.Step.Index, .int .i64 p0.from_, .int .i64 p0.to_, pv0_3], .pointer (some ⟨pb1, 0, none⟩)] w (RetS w [] φ (fun φ_ L_ v => v = .bool r ∧ L_ = [])) := by
 unfold m_target_RoundShows_1 at hm
 refine Gv.of Try.func70 rfl Try.ntmps70 Try.results70 rfl ?_
 refine CK.seq ?_
 refine CK.reg (ks := []) (.fx 0 (.fl 1 (.nil)) .stop) rfl ?_
 refine OKS.box (cs := [.int .i64 p0.Step.Kind, .int .i64 p0.Step.Index, .int .i64 p0.from_, .int .i64 p0.to_, pv0_3]) rfl rfl rfl rfl rfl rfl (by rfl) hS ?_
 intro W1 b2 hS3
 refine OKS.ra rfl rfl rfl rfl rfl rfl ?_
 refine OKS.e ?_
 refine thenQ_n ?_
 refine CK.seq ?_
 refine CK.reg (ks := []) (.fl 0 (.fl 1 (.fl 2 (.fl 3 (.fl 4 (.nil)))))) rfl ?_
 refine OKS.r rfl rfl rfl rfl (fun _ => Runs.fa rfl rfl Try.runUnderlying134 rfl Try.sizeOf35) ?_
 refine OKS.m rfl rfl rfl rfl (hS3.ldBA (j := 0) rfl rfl rfl Try.isAgg35 Try.sizeOf35 (vs := [.int .i64 p0.Step.Kind, .int .i64 p0.Step.Index]) rfl rfl) rfl ?_
 refine OKS.m rfl rfl rfl rfl (hS3.ldCA (f := 0) ha1 rfl rfl Try.isAgg35 Try.sizeOf35 (us := [.int .i64 p1.Kind, .int .i64 p1.Index]) rfl rfl) rfl ?_
 refine OKS.r rfl rfl rfl rfl (fun _ => Runs.eqS (enc := encT_target_Step) (a := p0.Step) (b := p1) rfl rfl rfl eqT35 eqG35) ?_
 refine OKS.ra rfl rfl rfl rfl rfl rfl ?_
 refine OKS.e ?_
 refine thenQ_n ?_
 refine CK.ret ?_
 cases hm
 exact ⟨rfl, _, (res1 rfl), φ, _, (hS3.pick [] _ (by decide) rfl), rfl, rfl⟩

set_option maxHeartbeats 4000000 in
theorem w_slices_IndexFunc_target_link_target_link (p0 : List T_target_link) (pA0 : Option Addr) (pc0 : Nat) (p1 : (T_target_link → Option Bool)) (pv1 : Value) (w : World) (φ : PHeap) (hS : St ⟨w, [], φ⟩ φ [] w) (ha0 : SlR φ rl134 pA0 pc0 p0) (ha1 : FnOK Try.prog φ pv1 ar135 rr135 p1) {r : Int} (hm : m_slices_IndexFunc_target_link_target_link p0 p1 = some r) : Gv Try.prog 69 [.slice pA0 p0.length pc0, pv1] w (RetS w [] φ (fun φ_ L_ v => v = .int .i64 r ∧ L_ = [])) := by
 unfold m_slices_IndexFunc_target_link_target_link at hm
 refine Gv.of Try.func69 rfl Try.ntmps69 Try.results69 rfl ?_
 refine CK.seq ?_
 refine CK.reg (ks := []) (.fl 0 (.nil)) rfl ?_
 refine OKS.ra rfl rfl rfl rfl rfl rfl ?_
 refine OKS.e ?_
 refine thenQ_n ?_
 refine CK.seq ?_
 refine CK.seq ?_
 refine CK.reg (ks := []) (.fl 0 (.fl 1 (.fl 2 (.nil)))) rfl ?_
 refine OKS.rm rfl rfl rfl rfl rfl rfl ?_
 refine OKS.r rfl rfl rfl rfl (fun _ => Runs.len rfl rfl Try.runUnderlying127) ?_
 refine OKS.rm rfl rfl rfl rfl rfl rfl ?_
 refine OKS.e ?_
 refine thenQ_n ?_
 refine CK.block ?_
 have q := jn_some hm
 obtain ⟨r3, hX4⟩ := q
 have q := forR_le hX4
 obtain ⟨hle5, hf6⟩ := q
 replace hle5 := Hid.mk hle5
 refine CK.forN (fun k2 _ σ_ w_ => ∃ (φ_ : PHeap), σ_ 8 = .int .i64 (↑k2 : Int) ∧ σ_ 0 = .slice pA0 p0.length pc0 ∧ σ_ 1 = pv1 ∧ σ_ 7 = .int .i64 (↑p0.length : Int) ∧ PHeap.Le φ φ_ ∧ St ⟨w, [], φ⟩ φ_ [] w_) hf6 ?_ ?_ ?_
 ·exact ⟨φ, rfl, rfl, rfl, rfl, (PHeap.Le.refl _), hS⟩
 ·rintro k2 ⟨⟩ xx9 σ7 W8 hk12 ⟨φ14, fi13, f17, f18, f19, le15, hS16⟩ hx10 hb11
  try dsimp only at hx10
  have c20 : Hid ((↑k2 : Int) < (↑p0.length : Int)) := Hid.mk (lp_lt0 hk12)
  replace hk12 := Hid.mk hk12
  have hi21 : Hid (w64 ((↑k2 : Int) + 1) = (↑(k2 + 1) : Int)) := Hid.mk (by have h1 := hle5.out; have h2 := c20.out; rw [w64_in] <;> omega)
  refine CK.seq ?_
  refine CK.reg (ks := []) (.fl 0 (.nil)) rfl ?_
  refine OKS.r rfl rfl rfl rfl (fun _ => Runs.lss rfl fi13 f19) ?_
  refine OKS.e ?_
  refine thenQ_n ?_
  refine CK.seq ?_
  refine CK.condT (decT c20.out) ?_
  refine CK.skip ?_
  refine thenQ_n ?_
  refine CK.seq ?_
  refine CK.block ?_
  refine CK.seq ?_
  refine CK.reg (ks := []) (.fl 0 (.fl 1 (.nil))) rfl ?_
  refine OKS.rm rfl rfl rfl rfl rfl fi13 ?_
  refine OKS.ra rfl rfl rfl rfl rfl rfl ?_
  refine OKS.e ?_
  refine thenQ_n ?_
  refine CK.seq ?_
  refine CK.reg (ks := []) (.fl 0 (.fl 1 (.fl 2 (.fl 3 (.fl 4 (.fx 5 (.nil) .stop)))))) rfl ?_
  refine OKS.rm rfl rfl rfl rfl rfl f18 ?_
  refine OKS.rm rfl rfl rfl rfl rfl f17 ?_
  refine OKS.rm rfl rfl rfl rfl rfl rfl ?_
  have q := bnd hx10
  obtain ⟨x22, h23, hm24⟩ := q
  have h25 := ha0.le le15
  have q := h25.el (idx_get h23)
  obtain ⟨b26, off27, vs30, hA28, hC29, hr31⟩ := q
  obtain ⟨pv32, rfl, h33⟩ := hr31
  replace hC29 : Cl φ14 b26 (off27 + k2 * 5) [.int .i64 x22.Step.Kind, .int .i64 x22.Step.Index, .int .i64 x22.from_, .int .i64 x22.to_, pv32] := hC29
  refine OKS.r rfl rfl rfl rfl (fun _ => Runs.iaN rfl rfl hA28 rfl Try.runUnderlying127 Try.sizeOf134 (idx_lt h23)) ?_
  refine OKS.m rfl rfl rfl rfl (hS16.ldCA (f := 0) hC29 rfl rfl Try.isAgg134 Try.sizeOf134 (us := [.int .i64 x22.Step.Kind, .int .i64 x22.Step.Index, .int .i64 x22.from_, .int .i64 x22.to_, pv32]) rfl rfl) rfl ?_
  have q := bnd hm24
  obtain ⟨x34, h35, hm36⟩ := q
  have h43 := ha1.le le15
  refine OKS.callV (a := x22) rfl rfl rfl rfl rfl rfl (mapcons rfl mapnil) hS16 h43 ⟨pv32, rfl, h33⟩ h35 ?_
  rintro φ37 L38 v39 W40 le41 hS42 ⟨rfl, rfl⟩
  have hS44 : St ⟨w, [], φ⟩ φ37 [] W40 := hS42
  refine OKS.e ?_
  refine thenQ_n ?_
  by_cases c45 : x34 = true
  ·have hm46 := hm36; rw [if_pos c45] at hm46; replace c45 := Hid.mk c45
   refine CK.condT (congrArg Value.bool c45.out) ?_
   refine CK.seq ?_
   refine CK.reg (ks := []) (.fl 0 (.fl 1 (.nil))) rfl ?_
   refine OKS.rm rfl rfl rfl rfl rfl rfl ?_
   refine OKS.ra rfl rfl rfl rfl rfl rfl ?_
   refine OKS.e ?_
   refine thenQ_n ?_
   refine CK.ret ?_
   refine blockQ_r ?_
   refine thenQ_r ?_
   have q := esc_spec hm46
   obtain ⟨v47, hm48, e49⟩ := q
   obtain rfl := jn_inr hm hX4 (hb11 v47 e49)
   refine thenQ_r ?_
   refine blockQ_r ?_
   refine thenQ_r ?_
   cases hm48
   exact ⟨rfl, _, (res1 rfl), φ37, _, hS44, rfl, rfl⟩
  ·have hm50 := hm36; rw [if_neg c45] at hm50; replace c45 := Hid.mk c45
   refine CK.condF (congrArg Value.bool (Bool.eq_false_iff.2 c45.out)) ?_
   refine CK.skip ?_
   refine blockQ_n ?_
   refine thenQ_n ?_
   refine CK.reg (ks := []) (.fl 0 (.fl 1 (.nil))) rfl ?_
   refine OKS.r rfl rfl rfl rfl (fun _ => Runs.to (Runs.addw rfl fi13 rfl) (congrArg (Value.int .i64) hi21.out)) ?_
   refine OKS.rm rfl rfl rfl rfl rfl rfl ?_
   refine OKS.e ?_
   obtain rfl := Option.some.inj hm50
   exact thenQ_n ⟨rfl, _, rfl, ⟨φ37, rfl, f17, f18, f19, (le15.trans le41), hS44⟩⟩
 ·rintro ⟨⟩ σ51 W52 ⟨φ55, fi54, f58, f59, f60, le56, hS57⟩ hb53
  have hm61 := jn_inl hm hX4 hb53
  try dsimp only at hm61
  have c62 : Hid (¬ ((↑(((↑p0.length : Int) : Int) - 0).toNat : Int) < (↑p0.length : Int))) := Hid.mk (lp_end0)
  refine CK.seq ?_
  refine CK.reg (ks := []) (.fl 0 (.nil)) rfl ?_
  refine OKS.r rfl rfl rfl rfl (fun _ => Runs.lss rfl fi54 f60) ?_
  refine OKS.e ?_
  refine thenQ_n ?_
  refine CK.seq ?_
  refine CK.condF (decF c62.out) ?_
  refine CK.exit ?_
  refine thenQ_e ?_
  refine thenQ_e ?_
  refine blockQ_h ?_
  refine thenQ_n ?_
  refine CK.seq ?_
  refine CK.reg (ks := []) (.fl 0 (.nil)) rfl ?_
  refine OKS.ra rfl rfl rfl rfl rfl rfl ?_
  refine OKS.e ?_
  refine thenQ_n ?_
  refine CK.ret ?_
  cases hm61
  exact ⟨rfl, _, (res1 rfl), φ55, _, hS57, rfl, rfl⟩

set_option maxHeartbeats 4000000 in
theorem w_target_RoundShows (p0 : List Int) (pA0 : Option Addr) (pc0 : Nat) (p1 : List T_target_Sheet) (pA1 : Option Addr) (pc1 : Nat) (p2 : List T_target_Step) (pA2 : Option Addr) (pc2 : Nat) (w : World) (φ : PHeap) (hS : St ⟨w, [], φ⟩ φ [] w) (ha0 : Sl φ 1 pA0 pc0 p0.length (List.flatMap encI p0)) (ha1 : Sl φ 4 pA1 pc1 p1.length (List.flatMap encT_target_Sheet p1)) (ha2 : Sl φ 2 pA2 pc2 p2.length (List.flatMap encT_target_Step p2)) {r : Int × Int} (hm : m_target_RoundShows p0 p1 p2 = some r) : Gv Try.prog 17 [.slice pA0 p0.length pc0, .slice pA1 p1.length pc1, .slice pA2 p2.length pc2] w (RetS w [] φ (fun φ_ L_ v => v = .tuple #[.int .i64 r.1, .int .i64 r.2] ∧ L_ = [])) := by
 unfold m_target_RoundShows at hm
 refine Gv.of Try.func17 rfl Try.ntmps17 Try.results17 rfl ?_
 refine CK.seq ?_
 refine CK.reg (ks := []) (.fl 0 (.fl 1 (.nil))) rfl ?_
 refine OKS.ra rfl rfl rfl rfl rfl rfl ?_
 refine OKS.ra rfl rfl rfl rfl rfl rfl ?_
 refine OKS.e ?_
 refine thenQ_n ?_
 refine CK.seq ?_
 refine CK.reg (ks := []) (.fl 0 (.fl 1 (.fx 2 (.fl 3 (.nil)) .stop))) rfl ?_
 refine OKS.rm rfl rfl rfl rfl rfl rfl ?_
 refine OKS.rm rfl rfl rfl rfl rfl rfl ?_
 have q := bnd hm
 obtain ⟨x1, h2, hm3⟩ := q
 refine OKS.callH 0 rfl rfl rfl rfl (Enters.mk rfl rfl Try.call64 (mapcons rfl (mapcons rfl mapnil)) rfl) hS (fun hs => w_target_due p0 pA0 pc0 p1 pA1 pc1 w φ hs ha0 ha1 h2) (.inr rfl) ?_
 rintro φ4 L5 v6 W7 le8 hS9 ⟨rfl, rfl⟩
 have hS10 : St ⟨w, [], φ⟩ φ4 [] W7 := hS9
 refine OKS.ra rfl rfl rfl rfl rfl rfl ?_
 refine OKS.e ?_
 refine thenQ_n ?_
 refine CK.seq ?_
 refine CK.block ?_
 refine CK.seq ?_
 refine CK.reg (ks := []) (.fl 0 (.fl 1 (.fl 2 (.nil)))) rfl ?_
 refine OKS.rm rfl rfl rfl rfl rfl rfl ?_
 refine OKS.r rfl rfl rfl rfl (fun _ => Runs.neq rfl rfl rfl) ?_
 refine OKS.ra rfl rfl rfl rfl rfl rfl ?_
 refine OKS.e ?_
 refine thenQ_n ?_
 by_cases c11 : x1 = 0
 ·have hm12 := hm3; rw [if_pos c11] at hm12; replace c11 := Hid.mk c11
  refine CK.condF (decF (fun h => h c11.out)) ?_
  refine CK.seq ?_
  refine CK.reg (ks := []) (.fl 0 (.fl 1 (.fx 2 (.fl 3 (.fl 4 (.nil))) .stop))) rfl ?_
  refine OKS.rm rfl rfl rfl rfl rfl rfl ?_
  refine OKS.r rfl rfl rfl rfl (fun _ => Runs.len rfl rfl Try.runUnderlying24) ?_
  have q := bnd hm12
  obtain ⟨x13, h14, hm15⟩ := q
  refine OKS.callH 0 rfl rfl rfl rfl (Enters.mk rfl rfl Try.call68 (mapcons rfl (mapcons rfl (mapcons rfl mapnil))) rfl) hS10 (fun hs => w_target_within (↑p2.length : Int) 1 40 W7 φ4 hs h14) (.inr rfl) ?_
  rintro φ16 L17 v18 W19 le20 hS21 ⟨rfl, rfl⟩
  have hS22 : St ⟨w, [], φ⟩ φ16 [] W19 := hS21
  refine OKS.r rfl rfl rfl rfl (fun _ => Runs.notT rfl rfl) ?_
  refine OKS.ra rfl rfl rfl rfl rfl rfl ?_
  refine OKS.e ?_
  refine thenQ_n ?_
  by_cases c23 : x13 = true
  ·have hm24 := hm15; rw [if_pos c23] at hm24; replace c23 := Hid.mk c23
   refine CK.condF (congrArg (fun b => Value.bool (!b)) c23.out) ?_
   refine CK.skip ?_
   refine blockQ_n ?_
   refine thenQ_n ?_
   refine CK.seq ?_
   refine CK.reg (ks := []) (.fl 0 (.fl 1 (.fl 2 (.fl 3 (.fx 4 (.fl 5 (.nil)) .stop))))) rfl ?_
   refine OKS.rm rfl rfl rfl rfl rfl rfl ?_
   refine OKS.r rfl rfl rfl rfl (fun _ => Runs.len rfl rfl Try.runUnderlying22) ?_
   refine OKS.rm rfl rfl rfl rfl rfl rfl ?_
   refine OKS.rm rfl rfl rfl rfl rfl rfl ?_
   have h25 := ha1.le le8
   have h26 := h25.le le20
   have h27 := ha0.le le8
   have h28 := h27.le le20
   have q := bnd hm24
   obtain ⟨x29, h30, hm31⟩ := q
   refine OKS.callH 0 rfl rfl rfl rfl (Enters.mk rfl rfl Try.call66 (mapcons rfl (mapcons rfl (mapcons rfl mapnil))) rfl) hS22 (fun hs => w_target_links (↑p0.length : Int) p1 pA1 pc1 p0 pA0 pc0 W19 φ16 hs h26 h28 h30) (.inr rfl) ?_
   rintro φ32 L33 v34 W35 le36 hS37 ⟨A38, c39, c40, rfl, rfl, h42⟩
   have hS43 : St ⟨w, [], φ⟩ φ32 [.row A38 c39 134 5 c40] W35 := hS37
   refine OKS.ra rfl rfl rfl rfl rfl rfl ?_
   refine OKS.e ?_
   refine thenQ_n ?_
   refine CK.seq ?_
   refine CK.reg (ks := []) (.fl 0 (.nil)) rfl ?_
   refine OKS.ra rfl rfl rfl rfl rfl rfl ?_
   refine OKS.e ?_
   refine thenQ_n ?_
   refine CK.seq ?_
   refine CK.seq ?_
   refine CK.reg (ks := []) (.fl 0 (.fl 1 (.fl 2 (.nil)))) rfl ?_
   refine OKS.rm rfl rfl rfl rfl rfl rfl ?_
   refine OKS.r rfl rfl rfl rfl (fun _ => Runs.len rfl rfl Try.runUnderlying24) ?_
   refine OKS.rm rfl rfl rfl rfl rfl rfl ?_
   refine OKS.e ?_
   refine thenQ_n ?_
   refine CK.block ?_
   have q := hS43.freezeRR (R := rl134) (k := 0) rfl h42 rfl (by decide)
   obtain ⟨φ45, le46, hs47, hS48⟩ := q
   have hS49 : St ⟨w, [], φ⟩ φ45 [] W35 := hS48
   have q := jn_some hm31
   obtain ⟨r72, hX73⟩ := q
   have q := forR_le hX73
   obtain ⟨hle74, hf75⟩ := q
   replace hle74 := Hid.mk hle74
   refine CK.forN (fun k71 l66 σ_ w_ => ∃ (φ_ : PHeap) (A67 : Option Addr) (c68 : Nat) (cs70 : List Value), σ_ 36 = .int .i64 (↑k71 : Int) ∧ σ_ 9 = .slice A38 x29.length c39 ∧ σ_ 10 = .slice A67 l66.length c68 ∧ σ_ 34 = .slice pA2 p2.length pc2 ∧ σ_ 35 = .int .i64 (↑p2.length : Int) ∧ PHeap.Le φ45 φ_ ∧ St ⟨w, [], φ⟩ φ_ [.row A67 c68 134 5 cs70] w_ ∧ RlL φ_ rl134 l66 cs70) hf75 ?_ ?_ ?_
   ·have hS76 := hS49.nilrow 134 5
    exact ⟨φ45, none, 0, [], rfl, rfl, rfl, rfl, rfl, (PHeap.Le.refl _), hS76, RlL.nil⟩
   ·rintro k71 l66 xx80 σ78 W79 hk83 ⟨φ85, A67, c68, cs70, fi84, f88, f89, f90, f91, le86, hS87, h92⟩ hx81 hb82
    have c93 : Hid ((↑k71 : Int) < (↑p2.length : Int)) := Hid.mk (lp_lt0 hk83)
    replace hk83 := Hid.mk hk83
    have hi94 : Hid (w64 ((↑k71 : Int) + 1) = (↑(k71 + 1) : Int)) := Hid.mk (by have h1 := hle74.out; have h2 := c93.out; rw [w64_in] <;> omega)
    refine CK.seq ?_
    refine CK.reg (ks := []) (.fl 0 (.nil)) rfl ?_
    refine OKS.r rfl rfl rfl rfl (fun _ => Runs.lss rfl fi84 f91) ?_
    refine OKS.e ?_
    refine thenQ_n ?_
    refine CK.seq ?_
    refine CK.condT (decT c93.out) ?_
    refine CK.skip ?_
    refine thenQ_n ?_
    refine CK.seq ?_
    refine CK.block ?_
    refine CK.seq ?_
    refine CK.reg (ks := []) (.fl 0 (.fl 1 (.fx 2 (.fx 3 (.nil) .stop) .stop))) rfl ?_
    have q := bnd hx81
    obtain ⟨x95, h96, hm97⟩ := q
    have h98 := ha2.le le8
    have h99 := h98.le le20
    have h100 := h99.le le36
    have h101 := h100.le le46
    have h102 := h101.le le86
    have q := h102.el (fun _ => rfl) (idx_get h96)
    obtain ⟨b103, off104, hA105, hC106⟩ := q
    refine OKS.r rfl rfl rfl rfl (fun _ => Runs.iaN rfl f90 hA105 fi84 Try.runUnderlying24 Try.sizeOf35 (idx_lt h96)) ?_
    refine OKS.m rfl rfl rfl rfl (hS87.ldCA (f := 0) hC106 rfl rfl Try.isAgg35 Try.sizeOf35 (us := [.int .i64 x95.Kind, .int .i64 x95.Index]) rfl rfl) rfl ?_
    refine OKS.alloc (cs := [.int .i64 0, .int .i64 0]) rfl rfl rfl rfl rfl Try.zeroValue35 rfl hS87 ?_
    intro W107 b108 hS109
    refine OKS.st (j := 0) (vs := [.int .i64 x95.Kind, .int .i64 x95.Index]) rfl rfl rfl rfl hS109 rfl rfl rfl rfl Try.sizeOf35 (Nat.le_of_ble_eq_true rfl) rfl rfl rfl ?_
    intro W111 hS112
    have hS113 : St ⟨w, [], φ⟩ φ85 [.blk b108 35 [.int .i64 x95.Kind, .int .i64 x95.Index], .row A67 c68 134 5 cs70] W111 := hS112
    refine OKS.e ?_
    refine thenQ_n ?_
    refine CK.seq ?_
    refine CK.reg (ks := []) (.fl 0 (.fl 1 (.fx 2 (.fl 3 (.nil)) .stop))) rfl ?_
    refine OKS.rm rfl rfl rfl rfl rfl f88 ?_
    have q := hS113.freeze (k := 0) rfl
    obtain ⟨φ114, le115, hC116, hS117⟩ := q
    replace hC116 := Cl.of hC116
    have hS118 : St ⟨w, [], φ⟩ φ114 [.row A67 c68 134 5 cs70] W111 := hS117
    replace hC116 : Cl φ114 b108 0 [.int .i64 x95.Kind, .int .i64 x95.Index] := hC116
    refine OKS.r rfl rfl rfl rfl (fun _ => Runs.mkf rfl mapnil (mapcons rfl mapnil)) ?_
    have h119 := hs47.le le86
    have h120 := h119.le le115
    have hF121 : FnOK Try.prog φ114 (.func (.func 70) #[] #[.pointer (some ⟨b108, 0, none⟩)]) ar135 rr135 (fun x => m_target_RoundShows_1 x x95) := ⟨70, [], [.pointer (some ⟨b108, 0, none⟩)], rfl, Try.call70, fun φ1 w1 x y vs le hs ha hm => by obtain ⟨pv_0_3, rfl, hq0_0⟩ := ha; exact w_target_RoundShows_1 x pv_0_3 x95 b108 w1 φ1 hs hq0_0 (hC116.le le) hm⟩
    have q := bnd hm97
    obtain ⟨x122, h123, hm124⟩ := q
    refine OKS.callH 0 rfl rfl rfl rfl (Enters.mk rfl rfl Try.call69 (mapcons rfl (mapcons rfl mapnil)) rfl) hS118 (fun hs => w_slices_IndexFunc_target_link_target_link x29 A38 c39 (fun x => m_target_RoundShows_1 x x95) (.func (.func 70) #[] #[.pointer (some ⟨b108, 0, none⟩)]) W111 φ114 hs h120 hF121 h123) (.inr rfl) ?_
    rintro φ125 L126 v127 W128 le129 hS130 ⟨rfl, rfl⟩
    have hS131 : St ⟨w, [], φ⟩ φ125 [.row A67 c68 134 5 cs70] W128 := hS130
    refine OKS.ra rfl rfl rfl rfl rfl rfl ?_
    refine OKS.e ?_
    refine thenQ_n ?_
    refine CK.seq ?_
    refine CK.seq ?_
    refine CK.reg (ks := []) (.fl 0 (.fl 1 (.nil))) rfl ?_
    refine OKS.rm rfl rfl rfl rfl rfl rfl ?_
    refine OKS.r rfl rfl rfl rfl (fun _ => Runs.lss rfl rfl rfl) ?_
    refine OKS.e ?_
    refine thenQ_n ?_
    by_cases c132 : x122 < 0
    ·have hm133 := hm124; rw [if_pos c132] at hm133; replace c132 := Hid.mk c132
     refine CK.condT (decT c132.out) ?_
     refine CK.seq ?_
     refine CK.reg (ks := []) (.fl 0 (.fl 1 (.nil))) rfl ?_
     refine OKS.ra rfl rfl rfl rfl rfl rfl ?_
     refine OKS.ra rfl rfl rfl rfl rfl rfl ?_
     refine OKS.e ?_
     refine thenQ_n ?_
     refine CK.ret ?_
     refine thenQ_r ?_
     refine blockQ_r ?_
     refine thenQ_r ?_
     have q := esc_spec hm133
     obtain ⟨v134, hm135, e136⟩ := q
     obtain rfl := jn_inr hm31 hX73 (hb82 v134 e136)
     refine thenQ_r ?_
     refine blockQ_r ?_
     refine thenQ_r ?_
     cases hm135
     exact ⟨rfl, _, (res2 rfl rfl), φ125, _, (hS131.pick [] _ (by decide) rfl), rfl, rfl⟩
    ·have hm137 := hm124; rw [if_neg c132] at hm137; replace c132 := Hid.mk c132
     refine CK.condF (decF c132.out) ?_
     refine CK.skip ?_
     refine thenQ_n ?_
     refine CK.reg (ks := []) (.fl 0 (.fl 1 (.fl 2 (.fl 3 (.fl 4 (.fx 5 (.fx 6 (.fl 7 (.nil)) .stop) .stop)))))) rfl ?_
     refine OKS.rm rfl rfl rfl rfl rfl f89 ?_
     refine OKS.rm rfl rfl rfl rfl rfl f88 ?_
     refine OKS.rm rfl rfl rfl rfl rfl rfl ?_
     have q := bnd hm137
     obtain ⟨x138, h139, hm140⟩ := q
     have h141 := h120.le le129
     have q := h141.el (idx_get h139)
     obtain ⟨b142, off143, vs146, hA144, hC145, hr147⟩ := q
     obtain ⟨pv148, rfl, h149⟩ := hr147
     replace hC145 : Cl φ125 b142 (off143 + x122.toNat * 5) [.int .i64 x138.Step.Kind, .int .i64 x138.Step.Index, .int .i64 x138.from_, .int .i64 x138.to_, pv148] := hC145
     refine OKS.r rfl rfl rfl rfl (fun _ => Runs.iaI rfl rfl hA144 rfl Try.runUnderlying127 Try.sizeOf134 (idx_lo h139) (idx_hi h139)) ?_
     refine OKS.m rfl rfl rfl rfl (hS131.ldCA (f := 0) hC145 rfl rfl Try.isAgg134 Try.sizeOf134 (us := [.int .i64 x138.Step.Kind, .int .i64 x138.Step.Index, .int .i64 x138.from_, .int .i64 x138.to_, pv148]) rfl rfl) rfl ?_
     refine OKS.buildSlice (pv := [(0, .agg #[.int .i64 x138.Step.Kind, .int .i64 x138.Step.Index, .int .i64 x138.from_, .int .i64 x138.to_, pv148])]) (zs := [.int .i64 0, .int .i64 0, .int .i64 0, .int .i64 0, .nilFunc]) (cs := [.int .i64 x138.Step.Kind, .int .i64 x138.Step.Index, .int .i64 x138.from_, .int .i64 x138.to_, pv148]) rfl rfl rfl rfl rfl (mapcons2 rfl mapnil2) Try.runUnderlying127 Try.sizeOf134 Try.zeroValue134 rfl rfl rfl rfl rfl hS131 ?_
     intro W150 b151 hS152
     have hr154 : RlL φ125 rl134 [x138] [.int .i64 x138.Step.Kind, .int .i64 x138.Step.Index, .int .i64 x138.from_, .int .i64 x138.to_, pv148] := (RlL.cons (R := rl134) (x := x138) (vs := [.int .i64 x138.Step.Kind, .int .i64 x138.Step.Index, .int .i64 x138.from_, .int .i64 x138.to_, pv148]) ⟨pv148, rfl, h149⟩ RlL.nil)
     have hS155 : St ⟨w, [], φ⟩ φ125 [.row (some ⟨b151, 0, none⟩) 1 134 5 [.int .i64 x138.Step.Kind, .int .i64 x138.Step.Index, .int .i64 x138.from_, .int .i64 x138.to_, pv148], .row A67 c68 134 5 cs70] W150 := hS152
     have q := bnd hm140
     obtain ⟨x156, h157, hm158⟩ := q
     have h165 := h92.le le115
     have h166 := h165.le le129
     refine OKS.appendR (R := rl134) (j := 1) (xs := l66) (ys := [x138]) (zs := x156) rfl rfl rfl rfl rfl Try.underlying127 info134 rfl rfl rfl rfl rfl rfl rfl hS155 rfl rfl rfl h166 hr154 (hS155.srcR (j := 0) rfl (by decide) (RlL.len hr154)) h157 rfl ?_
     intro A159 c160 cs161 W162 hS163 hr164
     have hS167 : St ⟨w, [], φ⟩ φ125 [.row (some ⟨b151, 0, none⟩) 1 134 5 [.int .i64 x138.Step.Kind, .int .i64 x138.Step.Index, .int .i64 x138.from_, .int .i64 x138.to_, pv148], .row A159 c160 134 5 cs161] W162 := hS163
     refine OKS.ra rfl rfl rfl rfl rfl rfl ?_
     refine OKS.e ?_
     refine blockQ_n ?_
     refine thenQ_n ?_
     refine CK.reg (ks := []) (.fl 0 (.fl 1 (.nil))) rfl ?_
     refine OKS.r rfl rfl rfl rfl (fun _ => Runs.to (Runs.addw rfl fi84 rfl) (congrArg (Value.int .i64) hi94.out)) ?_
     refine OKS.rm rfl rfl rfl rfl rfl rfl ?_
     refine OKS.e ?_
     obtain rfl := Option.some.inj hm158
     exact thenQ_n ⟨rfl, _, rfl, ⟨φ125, A159, c160, cs161, rfl, f88, rfl, f90, f91, ((le86.trans le115).trans le129), (hS167.pick [1] _ (by decide) rfl), hr164⟩⟩
   ·rintro y176 σ172 W173 ⟨φ180, A177, c178, c179, fi175, f183, f184, f185, f186, le181, hS182, h187⟩ hb174
    have hm188 := jn_inl hm31 hX73 hb174
    have c189 : Hid (¬ ((↑(((↑p2.length : Int) : Int) - 0).toNat : Int) < (↑p2.length : Int))) := Hid.mk (lp_end0)
    refine CK.seq ?_
    refine CK.reg (ks := []) (.fl 0 (.nil)) rfl ?_
    refine OKS.r rfl rfl rfl rfl (fun _ => Runs.lss rfl fi175 f186) ?_
    refine OKS.e ?_
    refine thenQ_n ?_
    refine CK.seq ?_
    refine CK.condF (decF c189.out) ?_
    refine CK.exit ?_
    refine thenQ_e ?_
    refine thenQ_e ?_
    refine blockQ_h ?_
    refine thenQ_n ?_
    refine CK.seq ?_
    refine CK.reg (ks := []) (.fl 0 (.nil)) rfl ?_
    refine OKS.ra rfl rfl rfl rfl rfl rfl ?_
    refine OKS.e ?_
    refine thenQ_n ?_
    refine CK.seq ?_
    refine CK.seq ?_
    refine CK.reg (ks := []) (.fl 0 (.fl 1 (.fl 2 (.nil)))) rfl ?_
    refine OKS.rm rfl rfl rfl rfl rfl f184 ?_
    refine OKS.r rfl rfl rfl rfl (fun _ => Runs.len rfl rfl Try.runUnderlying127) ?_
    refine OKS.rm rfl rfl rfl rfl rfl rfl ?_
    refine OKS.e ?_
    refine thenQ_n ?_
    refine CK.block ?_
    have q := hS182.freezeRR (R := rl134) (k := 0) rfl h187 rfl (by decide)
    obtain ⟨φ191, le192, hs193, hS194⟩ := q
    have hS195 : St ⟨w, [], φ⟩ φ191 [] W173 := hS194
    have q := jn_some hm188
    obtain ⟨r203, hX204⟩ := q
    have q := forR_le hX204
    obtain ⟨hle205, hf206⟩ := q
    replace hle205 := Hid.mk hle205
    refine CK.forN (fun k202 x201 σ_ w_ => ∃ (φ_ : PHeap), σ_ 55 = .int .i64 (↑k202 : Int) ∧ σ_ 10 = .slice A177 y176.length c178 ∧ σ_ 14 = .int .i64 x201 ∧ σ_ 53 = .slice A177 y176.length c178 ∧ σ_ 54 = .int .i64 (↑y176.length : Int) ∧ PHeap.Le φ191 φ_ ∧ St ⟨w, [], φ⟩ φ_ [] w_) hf206 ?_ ?_ ?_
    ·exact ⟨φ191, rfl, f184, rfl, rfl, rfl, (PHeap.Le.refl _), hS195⟩
    ·rintro k202 x201 xx209 σ207 W208 hk212 ⟨φ214, fi213, f217, f218, f219, f220, le215, hS216⟩ hx210 hb211
     have c221 : Hid ((↑k202 : Int) < (↑y176.length : Int)) := Hid.mk (lp_lt0 hk212)
     replace hk212 := Hid.mk hk212
     have hi222 : Hid (w64 ((↑k202 : Int) + 1) = (↑(k202 + 1) : Int)) := Hid.mk (by have h1 := hle205.out; have h2 := c221.out; rw [w64_in] <;> omega)
     refine CK.seq ?_
     refine CK.reg (ks := []) (.fl 0 (.nil)) rfl ?_
     refine OKS.r rfl rfl rfl rfl (fun _ => Runs.lss rfl fi213 f220) ?_
     refine OKS.e ?_
     refine thenQ_n ?_
     refine CK.seq ?_
     refine CK.condT (decT c221.out) ?_
     refine CK.skip ?_
     refine thenQ_n ?_
     refine CK.seq ?_
     refine CK.block ?_
     refine CK.seq ?_
     refine CK.reg (ks := []) (.fl 0 (.fl 1 (.fl 2 (.fx 3 (.fl 4 (.fx 5 (.nil) .stop)) .stop)))) rfl ?_
     refine OKS.rm rfl rfl rfl rfl rfl fi213 ?_
     have q := bnd hx210
     obtain ⟨x223, h224, hm225⟩ := q
     have h226 := hs193.le le215
     have q := h226.el (idx_get h224)
     obtain ⟨b227, off228, vs231, hA229, hC230, hr232⟩ := q
     obtain ⟨pv233, rfl, h234⟩ := hr232
     replace hC230 : Cl φ214 b227 (off228 + k202 * 5) [.int .i64 x223.Step.Kind, .int .i64 x223.Step.Index, .int .i64 x223.from_, .int .i64 x223.to_, pv233] := hC230
     refine OKS.r rfl rfl rfl rfl (fun _ => Runs.iaN rfl f219 hA229 fi213 Try.runUnderlying127 Try.sizeOf134 (idx_lt h224)) ?_
     refine OKS.m rfl rfl rfl rfl (hS216.ldCA (f := 0) hC230 rfl rfl Try.isAgg134 Try.sizeOf134 (us := [.int .i64 x223.Step.Kind, .int .i64 x223.Step.Index, .int .i64 x223.from_, .int .i64 x223.to_, pv233]) rfl rfl) rfl ?_
     refine OKS.alloc (cs := [.int .i64 0, .int .i64 0, .int .i64 0, .int .i64 0, .nilFunc]) rfl rfl rfl rfl rfl Try.zeroValue134 rfl hS216 ?_
     intro W235 b236 hS237
     refine OKS.ra rfl rfl rfl rfl rfl rfl ?_
     have q := id h234
     obtain ⟨fid239, fst240, cap241, he242, _⟩ := q
     subst he242
     refine OKS.st (j := 0) (vs := [.int .i64 x223.Step.Kind, .int .i64 x223.Step.Index, .int .i64 x223.from_, .int .i64 x223.to_, (.func (.func fid239) (List.toArray fst240) (List.toArray cap241))]) rfl rfl rfl rfl hS237 rfl rfl rfl rfl Try.sizeOf134 (Nat.le_of_ble_eq_true rfl) rfl rfl rfl ?_
     intro W243 hS244
     have hS245 : St ⟨w, [], φ⟩ φ214 [.blk b236 134 [.int .i64 x223.Step.Kind, .int .i64 x223.Step.Index, .int .i64 x223.from_, .int .i64 x223.to_, (.func (.func fid239) (List.toArray fst240) (List.toArray cap241))]] W243 := hS244
     refine OKS.e ?_
     refine thenQ_n ?_
     refine CK.seq ?_
     refine CK.seq ?_
     refine CK.anyOrd Try.mixed [3, 1, 3, 3, 3, 3, 3, 3, 3, 3, 1, 3] (.fl 0 (.fl 1 (.fl 2 (.fl 3 (.fl 4 (.fl 5 (.fl 6 (.fl 7 (.fl 8 (.fl 9 (.fl 10 (.fl 11 (.nil))))))))))))) (by kernel_rfl) ?_
     have hS246 := hS245.drew
     generalize hw_W247 : ({ W243 with drawn := W243.drawn + 1 } : World) = W247 at hS246 ⊢
     refine OKS.r rfl rfl rfl rfl (fun _ => Runs.fa rfl rfl Try.runUnderlying134 rfl Try.sizeOf3) ?_
     refine OKS.m rfl rfl rfl rfl (hS246.ldB (j := 0) rfl rfl rfl Try.isAgg3 (v := .int .i64 x223.to_) rfl) rfl ?_
     refine OKS.rm rfl rfl rfl rfl rfl f217 ?_
     refine OKS.rm rfl rfl rfl rfl rfl rfl ?_
     refine OKS.r rfl rfl rfl rfl (fun _ => Runs.to (Runs.addw rfl rfl rfl) (congrArg (Value.int .i64) hi222.out)) ?_
     refine OKS.rm rfl rfl rfl rfl rfl f217 ?_
     refine OKS.r rfl rfl rfl rfl (fun _ => Runs.len rfl rfl Try.runUnderlying127) ?_
     have q := bnd hm225
     obtain ⟨x248, h249, hm250⟩ := q
     refine OKS.r rfl rfl rfl rfl (fun _ => Runs.rem rfl rfl rfl h249) ?_
     have q := bnd hm250
     obtain ⟨x251, h252, hm253⟩ := q
     have q := h226.el (idx_get h252)
     obtain ⟨b254, off255, vs258, hA256, hC257, hr259⟩ := q
     obtain ⟨pv260, rfl, h261⟩ := hr259
     replace hC257 : Cl φ214 b254 (off255 + x248.toNat * 5) [.int .i64 x251.Step.Kind, .int .i64 x251.Step.Index, .int .i64 x251.from_, .int .i64 x251.to_, pv260] := hC257
     refine OKS.r rfl rfl rfl rfl (fun _ => Runs.iaI rfl rfl hA256 rfl Try.runUnderlying127 Try.sizeOf134 (idx_lo h252) (idx_hi h252)) ?_
     refine OKS.r rfl rfl rfl rfl (fun _ => Runs.fa rfl rfl Try.runUnderlying134 rfl Try.sizeOf3) ?_
     refine OKS.m rfl rfl rfl rfl (hS246.ldC (f := 2) hC257 (v := .int .i64 x251.from_) rfl rfl Try.isAgg3 rfl) rfl ?_
     refine OKS.r rfl rfl rfl rfl (fun _ => Runs.neq rfl rfl rfl) ?_
     refine OKS.e ?_
     refine thenQ_n ?_
     by_cases c262 : x223.to_ = x251.from_
     ·have hm263 := hm253; rw [if_pos c262] at hm263; replace c262 := Hid.mk c262
      refine CK.condF (decF (fun h => h c262.out)) ?_
      refine CK.skip ?_
      refine thenQ_n ?_
      refine CK.reg (ks := []) (.fl 0 (.fl 1 (.fl 2 (.fx 3 (.fl 4 (.fl 5 (.nil))) .stop)))) rfl ?_
      refine OKS.rm rfl rfl rfl rfl rfl f218 ?_
      refine OKS.r rfl rfl rfl rfl (fun _ => Runs.fa rfl rfl Try.runUnderlying134 rfl Try.sizeOf132) ?_
      refine OKS.m rfl rfl rfl rfl (hS246.ldB (j := 0) rfl rfl rfl Try.isAgg132 (v := (.func (.func fid239) (List.toArray fst240) (List.toArray cap241))) rfl) rfl ?_
      have q := bnd hm263
      obtain ⟨x264, h265, hm266⟩ := q
      refine OKS.callV (a := ()) rfl rfl rfl rfl rfl rfl mapnil hS246 h234 rfl h265 ?_
      rintro φ267 L268 v269 W270 le271 hS272 ⟨rfl, rfl⟩
      have hS273 : St ⟨w, [], φ⟩ φ267 [.blk b236 134 [.int .i64 x223.Step.Kind, .int .i64 x223.Step.Index, .int .i64 x223.from_, .int .i64 x223.to_, (.func (.func fid239) (List.toArray fst240) (List.toArray cap241))]] W270 := hS272
      refine OKS.r rfl rfl rfl rfl (fun _ => Runs.addw rfl rfl rfl) ?_
      refine OKS.ra rfl rfl rfl rfl rfl rfl ?_
      refine OKS.e ?_
      refine blockQ_n ?_
      refine thenQ_n ?_
      refine CK.reg (ks := []) (.fl 0 (.fl 1 (.nil))) rfl ?_
      refine OKS.r rfl rfl rfl rfl (fun _ => Runs.to (Runs.addw rfl fi213 rfl) (congrArg (Value.int .i64) hi222.out)) ?_
      refine OKS.rm rfl rfl rfl rfl rfl rfl ?_
      refine OKS.e ?_
      obtain rfl := Option.some.inj hm266
      exact thenQ_n ⟨rfl, _, rfl, ⟨φ267, rfl, f217, rfl, f219, f220, (le215.trans le271), (hS273.pick [] _ (by decide) rfl)⟩⟩
     ·have hm275 := hm253; rw [if_neg c262] at hm275; replace c262 := Hid.mk c262
      refine CK.condT (decT c262.out) ?_
      refine CK.seq ?_
      refine CK.reg (ks := []) (.fl 0 (.fl 1 (.nil))) rfl ?_
      refine OKS.ra rfl rfl rfl rfl rfl rfl ?_
      refine OKS.ra rfl rfl rfl rfl rfl rfl ?_
      refine OKS.e ?_
      refine thenQ_n ?_
      refine CK.ret ?_
      refine thenQ_r ?_
      refine blockQ_r ?_
      refine thenQ_r ?_
      have q := esc_spec hm275
      obtain ⟨v276, hm277, e278⟩ := q
      obtain rfl := jn_inr hm188 hX204 (hb211 v276 e278)
      refine thenQ_r ?_
      refine blockQ_r ?_
      refine thenQ_r ?_
      cases hm277
      exact ⟨rfl, _, (res2 rfl rfl), φ214, _, (hS246.pick [] _ (by decide) rfl), rfl, rfl⟩
    ·rintro y283 σ279 W280 ⟨φ284, fi282, f287, f288, f289, f290, le285, hS286⟩ hb281
     have hm291 := jn_inl hm188 hX204 hb281
     have c292 : Hid (¬ ((↑(((↑y176.length : Int) : Int) - 0).toNat : Int) < (↑y176.length : Int))) := Hid.mk (lp_end0)
     refine CK.seq ?_
     refine CK.reg (ks := []) (.fl 0 (.nil)) rfl ?_
     refine OKS.r rfl rfl rfl rfl (fun _ => Runs.lss rfl fi282 f290) ?_
     refine OKS.e ?_
     refine thenQ_n ?_
     refine CK.seq ?_
     refine CK.condF (decF c292.out) ?_
     refine CK.exit ?_
     refine thenQ_e ?_
     refine thenQ_e ?_
     refine blockQ_h ?_
     refine thenQ_n ?_
     refine CK.seq ?_
     refine CK.seq ?_
     refine CK.reg (ks := []) (.fl 0 (.fl 1 (.nil))) rfl ?_
     refine OKS.rm rfl rfl rfl rfl rfl f288 ?_
     refine OKS.r rfl rfl rfl rfl (fun _ => Runs.geq rfl rfl rfl) ?_
     refine OKS.e ?_
     refine thenQ_n ?_
     by_cases c293 : 0 ≤ y283
     ·have hm294 := hm291; rw [if_pos c293] at hm294; replace c293 := Hid.mk c293
      refine CK.condT (decT c293.out) ?_
      refine CK.seq ?_
      refine CK.reg (ks := []) (.fl 0 (.fl 1 (.nil))) rfl ?_
      refine OKS.ra rfl rfl rfl rfl rfl rfl ?_
      refine OKS.ra rfl rfl rfl rfl rfl rfl ?_
      refine OKS.e ?_
      refine thenQ_n ?_
      refine CK.ret ?_
      refine thenQ_r ?_
      cases hm294
      exact ⟨rfl, _, (res2 rfl rfl), φ284, _, hS286, rfl, rfl⟩
     ·have hm295 := hm291; rw [if_neg c293] at hm295; replace c293 := Hid.mk c293
      refine CK.condF (decF c293.out) ?_
      refine CK.skip ?_
      refine thenQ_n ?_
      refine CK.seq ?_
      refine CK.reg (ks := []) (.fl 0 (.fl 1 (.fl 2 (.nil)))) rfl ?_
      refine OKS.rm rfl rfl rfl rfl rfl f288 ?_
      refine OKS.ra rfl rfl rfl rfl rfl rfl ?_
      refine OKS.ra rfl rfl rfl rfl rfl rfl ?_
      refine OKS.e ?_
      refine thenQ_n ?_
      refine CK.ret ?_
      cases hm295
      exact ⟨rfl, _, (res2 rfl rfl), φ284, _, hS286, rfl, rfl⟩
  ·have hm296 := hm15; rw [if_neg c23] at hm296; replace c23 := Hid.mk c23
   refine CK.condT (congrArg (fun b => Value.bool (!b)) (Bool.eq_false_iff.2 c23.out)) ?_
   refine CK.seq ?_
   refine CK.reg (ks := []) (.fl 0 (.fl 1 (.nil))) rfl ?_
   refine OKS.ra rfl rfl rfl rfl rfl rfl ?_
   refine OKS.ra rfl rfl rfl rfl rfl rfl ?_
   refine OKS.e ?_
   refine thenQ_n ?_
   refine CK.ret ?_
   refine blockQ_r ?_
   refine thenQ_r ?_
   cases hm296
   exact ⟨rfl, _, (res2 rfl rfl), φ16, _, hS22, rfl, rfl⟩
 ·have hm297 := hm3; rw [if_neg c11] at hm297; replace c11 := Hid.mk c11
  refine CK.condT (decT c11.out) ?_
  refine CK.seq ?_
  refine CK.reg (ks := []) (.fl 0 (.fl 1 (.fl 2 (.nil)))) rfl ?_
  refine OKS.rm rfl rfl rfl rfl rfl rfl ?_
  refine OKS.ra rfl rfl rfl rfl rfl rfl ?_
  refine OKS.ra rfl rfl rfl rfl rfl rfl ?_
  refine OKS.e ?_
  refine thenQ_n ?_
  refine CK.ret ?_
  refine blockQ_r ?_
  refine thenQ_r ?_
  cases hm297
  exact ⟨rfl, _, (res2 rfl rfl), φ4, _, hS10, rfl, rfl⟩
end Go.Proofs.Ytaoaelhmiggepaa
