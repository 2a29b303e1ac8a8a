/- Walks, printed by a program: each function does what its model says. -/
import Derived.Test.YtaoaelhmiggepaaEnc
import Derived.Test.YtaoaelhmiggepaaW0
import Derived.Test.YtaoaelhmiggepaaW1
import Derived.Test.YtaoaelhmiggepaaW2
namespace Go.Proofs.Ytaoaelhmiggepaa
open Go.KL
set_option maxHeartbeats 4000000 in
theorem w_slices_Reverse_target_Step_target_Step (p0 : List T_target_Step) (pA0 : Option Addr) (pc0 : Nat) (w : World) (φ : PHeap) (hS : St ⟨w, [.row pA0 pc0 35 2 (List.flatMap encT_target_Step p0)], φ⟩ φ [.row pA0 pc0 35 2 (List.flatMap encT_target_Step p0)] w)  {r : (List T_target_Step)} (hm : m_slices_Reverse_target_Step_target_Step p0 = some r) : Gv Try.prog 113 [.slice pA0 p0.length pc0] w (RetS w [.row pA0 pc0 35 2 (List.flatMap encT_target_Step p0)] φ (fun φ_ L_ v => v = .tuple #[] ∧ L_ = [.row pA0 pc0 35 2 (List.flatMap encT_target_Step r)] ∧ r.length = p0.length)) := by
 unfold m_slices_Reverse_target_Step_target_Step at hm
 refine Gv.of Try.func113 rfl Try.ntmps113 Try.results113 rfl ?_
 refine CK.seq ?_
 refine CK.reg (ks := []) (.fl 0 (.fl 1 (.fl 2 (.fl 3 (.fl 4 (.nil)))))) rfl ?_
 refine OKS.rm rfl rfl rfl rfl rfl rfl ?_
 refine OKS.r rfl rfl rfl rfl (fun _ => Runs.len rfl rfl Try.runUnderlying24) ?_
 refine OKS.r rfl rfl rfl rfl (fun _ => Runs.subw rfl rfl rfl) ?_
 refine OKS.ra rfl rfl rfl rfl rfl rfl ?_
 refine OKS.ra rfl rfl rfl rfl rfl rfl ?_
 refine OKS.e ?_
 refine thenQ_n ?_
 refine CK.block ?_
 refine CK.iter (fun (l11, x12, x13) σ_ w_ => ∃ (φ_ : PHeap), σ_ 0 = .slice pA0 l11.length pc0 ∧ σ_ 2 = .int .i64 x12 ∧ σ_ 3 = .int .i64 x13 ∧ PHeap.Le φ φ_ ∧ St ⟨w, [.row pA0 pc0 35 2 (List.flatMap encT_target_Step p0)], φ⟩ φ_ [.row pA0 pc0 35 2 (List.flatMap encT_target_Step l11)] w_ ∧ l11.length = p0.length) hm ?_ ?_
 ·exact ⟨φ, rfl, rfl, rfl, (PHeap.Le.refl _), hS, (by first | rfl | assumption | (simp only [List.length_set]; first | rfl | assumption))⟩
 ·rintro ⟨l11, x12, x13⟩ xx16 σ14 W15 ⟨φ21, f24, f25, f26, le22, hS23, h27⟩ hx17 hb18
  try dsimp only at hx17
  refine CK.seq ?_
  refine CK.seq ?_
  refine CK.reg (ks := []) (.fl 0 (.fl 1 (.fl 2 (.nil)))) rfl ?_
  refine OKS.rm rfl rfl rfl rfl rfl f25 ?_
  refine OKS.rm rfl rfl rfl rfl rfl f26 ?_
  refine OKS.r rfl rfl rfl rfl (fun _ => Runs.lss rfl rfl rfl) ?_
  refine OKS.e ?_
  refine thenQ_n ?_
  by_cases c28 : x12 < x13
  ·have hm29 := hx17; rw [if_pos c28] at hm29; replace c28 := Hid.mk c28
   refine CK.condT (decT c28.out) ?_
   refine CK.skip ?_
   refine thenQ_n ?_
   refine CK.seq ?_
   refine CK.block ?_
   refine CK.anyOrd Try.mixed [3, 3, 3, 3, 3, 3, 3, 1, 3, 3, 3, 1, 3, 0, 3, 0] (.fl 0 (.fl 1 (.fl 2 (.fl 3 (.fl 4 (.fl 5 (.fl 6 (.fl 7 (.fl 8 (.fl 9 (.fl 10 (.fl 11 (.fl 12 (.fx 13 (.fl 14 (.fx 15 (.nil) .stop)) .stop)))))))))))))) (by kernel_rfl) ?_
   have hS30 := hS23.drew
   generalize hw_W31 : ({ W15 with drawn := W15.drawn + 1 } : World) = W31 at hS30 ⊢
   refine OKS.rm rfl rfl rfl rfl rfl f24 ?_
   refine OKS.rm rfl rfl rfl rfl rfl f25 ?_
   refine OKS.rm rfl rfl rfl rfl rfl f24 ?_
   refine OKS.rm rfl rfl rfl rfl rfl f26 ?_
   refine OKS.rm rfl rfl rfl rfl rfl f24 ?_
   refine OKS.rm rfl rfl rfl rfl rfl f26 ?_
   have q := bnd hm29
   obtain ⟨_, h32, hm33⟩ := q
   obtain ⟨b34, hA35⟩ := hS30.rowSome (j := 0) rfl (by rw [flatMap_len (f := encT_target_Step) (sz := 2) (fun _ => rfl) l11]; have hz := chk_lt h32; omega)
   refine OKS.r rfl rfl rfl rfl (fun _ => Runs.iaI rfl rfl hA35 rfl Try.runUnderlying24 Try.sizeOf35 (chk_lo h32) (chk_hi h32)) ?_
   have hg36 := gd_at (xs := l11) (chk_lt h32)
   refine OKS.m rfl rfl rfl rfl (hS30.ldRA (j := 0) rfl hA35 rfl rfl Try.isAgg35 Try.sizeOf35 (vs := [.int .i64 ((gd l11 x13.toNat).Kind), .int .i64 ((gd l11 x13.toNat).Index)]) (flatMap_sub (sz := 2) (fun _ => rfl) _ _ _ hg36 (by first | omega | rfl) rfl) rfl) rfl ?_
   refine OKS.rm rfl rfl rfl rfl rfl f24 ?_
   refine OKS.rm rfl rfl rfl rfl rfl f25 ?_
   have q := bnd hm33
   obtain ⟨_, h37, hm38⟩ := q
   refine OKS.r rfl rfl rfl rfl (fun _ => Runs.iaI rfl rfl hA35 rfl Try.runUnderlying24 Try.sizeOf35 (chk_lo h37) (chk_hi h37)) ?_
   have hg39 := gd_at (xs := l11) (chk_lt h37)
   refine OKS.m rfl rfl rfl rfl (hS30.ldRA (j := 0) rfl hA35 rfl rfl Try.isAgg35 Try.sizeOf35 (vs := [.int .i64 ((gd l11 x12.toNat).Kind), .int .i64 ((gd l11 x12.toNat).Index)]) (flatMap_sub (sz := 2) (fun _ => rfl) _ _ _ hg39 (by first | omega | rfl) rfl) rfl) rfl ?_
   refine OKS.r rfl rfl rfl rfl (fun _ => Runs.iaI rfl rfl hA35 rfl Try.runUnderlying24 Try.sizeOf35 (chk_lo h37) (chk_hi h37)) ?_
   have hg40 := gd_at (xs := l11) (chk_lt h37)
   refine OKS.stR (j := 0) (vs := [.int .i64 ((gd l11 x13.toNat).Kind), .int .i64 ((gd l11 x13.toNat).Index)]) (cs' := List.flatMap encT_target_Step (List.set l11 x12.toNat (gd l11 x13.toNat))) rfl rfl rfl rfl hS30 rfl hA35 rfl rfl rfl Try.sizeOf35 (by rw [flatMap_len (f := encT_target_Step) (sz := 2) (fun _ => rfl)]; have hz := chk_lt h37; simp only [List.getElem_toArray, List.getElem_cons_succ, List.getElem_cons_zero, List.length_cons, List.length_nil]; omega) rfl (setN_at (sz := 2) (fo := 0) (fun _ => rfl) _ _ _ _ hg40 (by first | omega | (simp only [List.getElem_toArray, List.getElem_cons_succ, List.getElem_cons_zero]; omega)) (Nat.le_of_ble_eq_true rfl) rfl) rfl ?_
   intro W41 hS42
   have hS43 : St ⟨w, [.row pA0 pc0 35 2 (List.flatMap encT_target_Step p0)], φ⟩ φ21 [.row pA0 pc0 35 2 (List.flatMap encT_target_Step (List.set l11 x12.toNat (gd l11 x13.toNat)))] W41 := hS42
   have q := bnd hm38
   obtain ⟨_, h44, hm45⟩ := q
   refine OKS.r rfl rfl rfl rfl (fun _ => Runs.iaI rfl (Eq.trans (b := (.slice pA0 l11.length pc0 : Value)) (c := (.slice pA0 ((List.set l11 x12.toNat (gd l11 x13.toNat)).length) pc0 : Value)) rfl (by simp only [List.length_set])) hA35 rfl Try.runUnderlying24 Try.sizeOf35 (chk_lo h44) (chk_hi h44)) ?_
   have hg46 := gd_at (xs := (List.set l11 x12.toNat (gd l11 x13.toNat))) (chk_lt h44)
   refine OKS.stR (j := 0) (vs := [.int .i64 ((gd l11 x12.toNat).Kind), .int .i64 ((gd l11 x12.toNat).Index)]) (cs' := List.flatMap encT_target_Step (List.set (List.set l11 x12.toNat (gd l11 x13.toNat)) x13.toNat (gd l11 x12.toNat))) rfl rfl rfl rfl hS43 rfl hA35 rfl rfl rfl Try.sizeOf35 (by rw [flatMap_len (f := encT_target_Step) (sz := 2) (fun _ => rfl)]; have hz := chk_lt h44; simp only [List.getElem_toArray, List.getElem_cons_succ, List.getElem_cons_zero, List.length_cons, List.length_nil]; omega) rfl (setN_at (sz := 2) (fo := 0) (fun _ => rfl) _ _ _ _ hg46 (by first | omega | (simp only [List.getElem_toArray, List.getElem_cons_succ, List.getElem_cons_zero]; omega)) (Nat.le_of_ble_eq_true rfl) rfl) rfl ?_
   intro W47 hS48
   have hS49 : St ⟨w, [.row pA0 pc0 35 2 (List.flatMap encT_target_Step p0)], φ⟩ φ21 [.row pA0 pc0 35 2 (List.flatMap encT_target_Step (List.set (List.set l11 x12.toNat (gd l11 x13.toNat)) x13.toNat (gd l11 x12.toNat)))] W47 := hS48
   refine OKS.e ?_
   refine blockQ_n ?_
   refine thenQ_n ?_
   refine CK.reg (ks := []) (.fl 0 (.fl 1 (.fl 2 (.fl 3 (.fl 4 (.fl 5 (.nil))))))) rfl ?_
   refine OKS.rm rfl rfl rfl rfl rfl f25 ?_
   refine OKS.r rfl rfl rfl rfl (fun _ => Runs.addw rfl rfl rfl) ?_
   refine OKS.rm rfl rfl rfl rfl rfl f26 ?_
   refine OKS.r rfl rfl rfl rfl (fun _ => Runs.subw rfl rfl rfl) ?_
   refine OKS.ra rfl rfl rfl rfl rfl rfl ?_
   refine OKS.ra rfl rfl rfl rfl rfl rfl ?_
   refine OKS.e ?_
   obtain rfl := Option.some.inj hm45
   exact thenQ_n ⟨rfl, _, rfl, ⟨φ21, (Eq.trans (b := (.slice pA0 ((List.set l11 x12.toNat (gd l11 x13.toNat)).length) pc0 : Value)) (c := (.slice pA0 ((List.set (List.set l11 x12.toNat (gd l11 x13.toNat)) x13.toNat (gd l11 x12.toNat)).length) pc0 : Value)) (Eq.trans (b := (.slice pA0 l11.length pc0 : Value)) (c := (.slice pA0 ((List.set l11 x12.toNat (gd l11 x13.toNat)).length) pc0 : Value)) f24 (by simp only [List.length_set])) (by simp only [List.length_set])), rfl, rfl, le22, hS49, (by first | rfl | assumption | (simp only [List.length_set]; first | rfl | assumption))⟩⟩
  ·have hm53 := hx17; rw [if_neg c28] at hm53; replace c28 := Hid.mk c28
   refine CK.condF (decF c28.out) ?_
   refine CK.exit ?_
   refine thenQ_e ?_
   have q := esc_spec hm53
   obtain ⟨v54, hm55, e56⟩ := q
   obtain rfl := hb18 v54 e56
   refine thenQ_e ?_
   refine blockQ_h ?_
   cases hm55
   exact ⟨rfl, _, (res0), φ21, _, hS23, rfl, rfl, (by first | rfl | assumption | (simp only [List.length_set]; first | rfl | assumption))⟩

set_option maxHeartbeats 4000000 in
theorem w_target_round (p0 : Int) (p1 : List T_target_link) (pA1 : Option Addr) (pc1 : Nat) (w : World) (φ : PHeap) (hS : St ⟨w, [], φ⟩ φ [] w) (ha0 : SlR φ rl134 pA1 pc1 p1) {r : (List T_target_Step)} (hm : m_target_round p0 p1 = some r) : Gv Try.prog 72 [.int .i64 p0, .slice pA1 p1.length pc1] w (RetS w [] φ (fun φ_ L_ v => ∃ (A0 : Option Addr) (c0 : Nat), v = .slice A0 r.length c0 ∧ L_ = [.row A0 c0 35 2 (List.flatMap encT_target_Step r)] ∧ (r = [] → A0 = none))) := by
 unfold m_target_round at hm
 refine Gv.of Try.func72 rfl Try.ntmps72 Try.results72 rfl ?_
 refine CK.seq ?_
 refine CK.reg (ks := []) (.fl 0 (.nil)) rfl ?_
 refine OKS.ra rfl rfl rfl rfl rfl rfl ?_
 refine OKS.e ?_
 refine thenQ_n ?_
 refine CK.scope ?_
 refine CK.seq ?_
 refine CK.reg (ks := []) (.fx 0 (.fx 1 (.nil) .stop) .stop) rfl ?_
 refine OKS.alloc (cs := List.flatMap encI (Arr.fill 9 0).l) rfl rfl rfl rfl rfl Try.zeroValue123 rfl hS ?_
 intro W1 b2 hS3
 have hS5 : St ⟨w, [], φ⟩ φ [.blk b2 123 (List.flatMap encI (Arr.fill 9 0).l)] W1 := hS3
 refine OKS.alloc (cs := List.flatMap encI (Arr.fill 9 0).l) rfl rfl rfl rfl rfl Try.zeroValue123 rfl hS5 ?_
 intro W6 b7 hS8
 have hS10 : St ⟨w, [], φ⟩ φ [.blk b7 123 (List.flatMap encI (Arr.fill 9 0).l), .blk b2 123 (List.flatMap encI (Arr.fill 9 0).l)] W6 := hS8
 refine OKS.e ?_
 refine thenQ_n ?_
 refine CK.seq ?_
 refine CK.reg (ks := []) (.fl 0 (.nil)) rfl ?_
 refine OKS.ra rfl rfl rfl rfl rfl rfl ?_
 refine OKS.e ?_
 refine thenQ_n ?_
 refine CK.seq ?_
 refine CK.label ?_
 refine thenQ_n ?_
 refine CK.seq ?_
 refine CK.seq ?_
 refine CK.reg (ks := []) (.fl 0 (.fl 1 (.fl 2 (.nil)))) rfl ?_
 refine OKS.rm rfl rfl rfl rfl rfl rfl ?_
 refine OKS.r rfl rfl rfl rfl (fun _ => Runs.addw rfl rfl rfl) ?_
 refine OKS.rm rfl rfl rfl rfl rfl rfl ?_
 refine OKS.e ?_
 refine thenQ_n ?_
 refine CK.block ?_
 have q := jn_some hm
 obtain ⟨r26, hX27⟩ := q
 have q := forR_le hX27
 obtain ⟨hle28, hf29⟩ := q
 replace hle28 := Hid.mk hle28
 refine CK.forN (fun k25 (a22, a23, x24) σ_ w_ => ∃ (φ_ : PHeap), σ_ 15 = .int .i64 (↑k25 : Int) ∧ σ_ 0 = .int .i64 p0 ∧ σ_ 1 = .slice pA1 p1.length pc1 ∧ σ_ 5 = .pointer (some ⟨b2, 0, none⟩) ∧ σ_ 6 = .pointer (some ⟨b7, 0, none⟩) ∧ σ_ 7 = .int .i64 x24 ∧ σ_ 14 = .int .i64 (w64 (p0 + 2)) ∧ PHeap.Le φ φ_ ∧ St ⟨w, [], φ⟩ φ_ [.blk b7 123 (List.flatMap encI a22.l), .blk b2 123 (List.flatMap encI a23.l)] w_) hf29 ?_ ?_ ?_
 ·exact ⟨φ, rfl, rfl, rfl, rfl, rfl, rfl, rfl, (PHeap.Le.refl _), hS10⟩
 ·rintro k25 ⟨a22, a23, x24⟩ xx32 σ30 W31 hk35 ⟨φ37, fi36, f40, f41, f42, f43, f44, f45, le38, hS39⟩ hx33 hb34
  try dsimp only at hx33
  have c46 : Hid ((↑k25 : Int) < (w64 (p0 + 2))) := Hid.mk (lp_lt0 hk35)
  replace hk35 := Hid.mk hk35
  have hi47 : Hid (w64 ((↑k25 : Int) + 1) = (↑(k25 + 1) : Int)) := Hid.mk (by have h1 := hle28.out; have h2 := c46.out; rw [w64_in] <;> omega)
  refine CK.seq ?_
  refine CK.reg (ks := []) (.fl 0 (.nil)) rfl ?_
  refine OKS.r rfl rfl rfl rfl (fun _ => Runs.lss rfl fi36 f45) ?_
  refine OKS.e ?_
  refine thenQ_n ?_
  refine CK.seq ?_
  refine CK.condT (decT c46.out) ?_
  refine CK.skip ?_
  refine thenQ_n ?_
  refine CK.seq ?_
  refine CK.block ?_
  refine CK.seq ?_
  refine CK.reg (ks := []) (.fl 0 (.nil)) rfl ?_
  refine OKS.ra rfl rfl rfl rfl rfl rfl ?_
  refine OKS.e ?_
  refine thenQ_n ?_
  refine CK.seq ?_
  refine CK.seq ?_
  refine CK.reg (ks := []) (.fl 0 (.fl 1 (.fl 2 (.nil)))) rfl ?_
  refine OKS.rm rfl rfl rfl rfl rfl f41 ?_
  refine OKS.r rfl rfl rfl rfl (fun _ => Runs.len rfl rfl Try.runUnderlying127) ?_
  refine OKS.rm rfl rfl rfl rfl rfl rfl ?_
  refine OKS.e ?_
  refine thenQ_n ?_
  refine CK.block ?_
  have q := bnd hx33
  obtain ⟨⟨y67, y68, y69⟩, hf64, hm63⟩ := q
  try dsimp only at hm63
  have q := forR'_le hf64
  obtain ⟨hle65, hf66⟩ := q
  replace hle65 := Hid.mk hle65
  refine CK.forN' (fun k62 (a59, a60, x61) σ_ w_ => ∃ (φ_ : PHeap), σ_ 19 = .int .i64 (↑k62 : Int) ∧ σ_ 0 = .int .i64 p0 ∧ σ_ 1 = .slice pA1 p1.length pc1 ∧ σ_ 5 = .pointer (some ⟨b2, 0, none⟩) ∧ σ_ 6 = .pointer (some ⟨b7, 0, none⟩) ∧ σ_ 7 = .int .i64 x61 ∧ σ_ 14 = .int .i64 (w64 (p0 + 2)) ∧ σ_ 15 = .int .i64 (↑k25 : Int) ∧ σ_ 17 = .slice pA1 p1.length pc1 ∧ σ_ 18 = .int .i64 (↑p1.length : Int) ∧ PHeap.Le φ37 φ_ ∧ St ⟨w, [], φ⟩ φ_ [.blk b7 123 (List.flatMap encI a59.l), .blk b2 123 (List.flatMap encI a60.l)] w_) hf66 ?_ ?_ ?_
  ·exact ⟨φ37, rfl, f40, f41, f42, f43, rfl, f45, fi36, rfl, rfl, (PHeap.Le.refl _), hS39⟩
  ·rintro k62 ⟨a59, a60, x61⟩ xx72 σ70 W71 hk75 ⟨φ77, fi76, f80, f81, f82, f83, f84, f85, f86, f87, f88, le78, hS79⟩ hx73
   try dsimp only at hx73
   have c89 : Hid ((↑k62 : Int) < (↑p1.length : Int)) := Hid.mk (lp_lt0 hk75)
   replace hk75 := Hid.mk hk75
   have hi90 : Hid (w64 ((↑k62 : Int) + 1) = (↑(k62 + 1) : Int)) := Hid.mk (by have h1 := hle65.out; have h2 := c89.out; rw [w64_in] <;> omega)
   refine CK.seq ?_
   refine CK.reg (ks := []) (.fl 0 (.nil)) rfl ?_
   refine OKS.r rfl rfl rfl rfl (fun _ => Runs.lss rfl fi76 f88) ?_
   refine OKS.e ?_
   refine thenQ_n ?_
   refine CK.seq ?_
   refine CK.condT (decT c89.out) ?_
   refine CK.skip ?_
   refine thenQ_n ?_
   have q := bnd hx73
   obtain ⟨⟨a91, a92, x93⟩, hx95, hm96⟩ := q
   try dsimp only at hm96
   refine CK.cut (fun σ_ w_ => ∃ (φ_ : PHeap), σ_ 0 = .int .i64 p0 ∧ σ_ 1 = .slice pA1 p1.length pc1 ∧ σ_ 5 = .pointer (some ⟨b2, 0, none⟩) ∧ σ_ 6 = .pointer (some ⟨b7, 0, none⟩) ∧ σ_ 7 = .int .i64 x93 ∧ σ_ 14 = .int .i64 (w64 (p0 + 2)) ∧ σ_ 15 = .int .i64 (↑k25 : Int) ∧ σ_ 17 = .slice pA1 p1.length pc1 ∧ σ_ 18 = .int .i64 (↑p1.length : Int) ∧ σ_ 19 = .int .i64 (↑k62 : Int) ∧ PHeap.Le φ77 φ_ ∧ St ⟨w, [], φ⟩ φ_ [.blk b7 123 (List.flatMap encI a91.l), .blk b2 123 (List.flatMap encI a92.l)] w_) ?_ ?_
   ·refine CK.block ?_
    refine CK.seq ?_
    refine CK.reg (ks := []) (.fl 0 (.fl 1 (.fl 2 (.fx 3 (.fl 4 (.fx 5 (.nil) .stop)) .stop)))) rfl ?_
    refine OKS.rm rfl rfl rfl rfl rfl fi76 ?_
    have q := bnd hx95
    obtain ⟨x97, h98, hm99⟩ := q
    have h100 := ha0.le le38
    have h101 := h100.le le78
    have q := h101.el (idx_get h98)
    obtain ⟨b102, off103, vs106, hA104, hC105, hr107⟩ := q
    obtain ⟨pv108, rfl, h109⟩ := hr107
    replace hC105 : Cl φ77 b102 (off103 + k62 * 5) [.int .i64 x97.Step.Kind, .int .i64 x97.Step.Index, .int .i64 x97.from_, .int .i64 x97.to_, pv108] := hC105
    refine OKS.r rfl rfl rfl rfl (fun _ => Runs.iaN rfl f87 hA104 fi76 Try.runUnderlying127 Try.sizeOf134 (idx_lt h98)) ?_
    refine OKS.m rfl rfl rfl rfl (hS79.ldCA (f := 0) hC105 rfl rfl Try.isAgg134 Try.sizeOf134 (us := [.int .i64 x97.Step.Kind, .int .i64 x97.Step.Index, .int .i64 x97.from_, .int .i64 x97.to_, pv108]) rfl rfl) rfl ?_
    refine OKS.alloc (cs := [.int .i64 0, .int .i64 0, .int .i64 0, .int .i64 0, .nilFunc]) rfl rfl rfl rfl rfl Try.zeroValue134 rfl hS79 ?_
    intro W110 b111 hS112
    refine OKS.ra rfl rfl rfl rfl rfl rfl ?_
    have q := id h109
    obtain ⟨fid114, fst115, cap116, he117, _⟩ := q
    subst he117
    refine OKS.st (j := 0) (vs := [.int .i64 x97.Step.Kind, .int .i64 x97.Step.Index, .int .i64 x97.from_, .int .i64 x97.to_, (.func (.func fid114) (List.toArray fst115) (List.toArray cap116))]) rfl rfl rfl rfl hS112 rfl rfl rfl rfl Try.sizeOf134 (Nat.le_of_ble_eq_true rfl) rfl rfl rfl ?_
    intro W118 hS119
    have hS120 : St ⟨w, [], φ⟩ φ77 [.blk b111 134 [.int .i64 x97.Step.Kind, .int .i64 x97.Step.Index, .int .i64 x97.from_, .int .i64 x97.to_, (.func (.func fid114) (List.toArray fst115) (List.toArray cap116))], .blk b7 123 (List.flatMap encI a59.l), .blk b2 123 (List.flatMap encI a60.l)] W118 := hS119
    refine OKS.e ?_
    refine thenQ_n ?_
    refine CK.seq ?_
    refine CK.anyOrd Try.mixed [3, 1, 3, 1, 3, 1, 2, 3, 3, 1, 3, 1, 3] (.fl 0 (.fl 1 (.fl 2 (.fl 3 (.fl 4 (.fl 5 (.fl 8 (.fl 9 (.fl 10 (.fl 11 (.fx 6 (.fl 7 (.fl 12 (.nil))) .stop))))))))))) (by kernel_rfl) ?_
    have hS121 := hS120.drew
    generalize hw_W122 : ({ W118 with drawn := W118.drawn + 1 } : World) = W122 at hS121 ⊢
    refine OKS.r rfl rfl rfl rfl (fun _ => Runs.fa rfl rfl Try.runUnderlying134 rfl Try.sizeOf3) ?_
    refine OKS.m rfl rfl rfl rfl (hS121.ldB (j := 0) rfl rfl rfl Try.isAgg3 (v := .int .i64 x97.from_) rfl) rfl ?_
    have q := bnd hm99
    obtain ⟨_, h123, hm124⟩ := q
    refine OKS.r rfl rfl rfl rfl (fun _ => Runs.iaA rfl f82 rfl Try.runUnderlying123 Try.sizeOf3 (chk_lo h123) (chk_hi h123)) ?_
    have hg125 := Arr.at_ a60 (k := x97.from_.toNat) (by have hz0 := chk_lt h123; omega)
    refine OKS.m rfl rfl rfl rfl (hS121.ldB (j := 2) rfl rfl rfl Try.isAgg3 (flatMap_cell (sz := 1) (fun _ => rfl) _ _ 0 _ hg125 (by first | omega | rfl) rfl)) rfl ?_
    refine OKS.r rfl rfl rfl rfl (fun _ => Runs.fa rfl rfl Try.runUnderlying134 rfl Try.sizeOf132) ?_
    refine OKS.m rfl rfl rfl rfl (hS121.ldB (j := 0) rfl rfl rfl Try.isAgg132 (v := (.func (.func fid114) (List.toArray fst115) (List.toArray cap116))) rfl) rfl ?_
    refine OKS.r rfl rfl rfl rfl (fun _ => Runs.fa rfl rfl Try.runUnderlying134 rfl Try.sizeOf3) ?_
    refine OKS.m rfl rfl rfl rfl (hS121.ldB (j := 0) rfl rfl rfl Try.isAgg3 (v := .int .i64 x97.to_) rfl) rfl ?_
    have q := bnd hm124
    obtain ⟨_, h126, hm127⟩ := q
    refine OKS.r rfl rfl rfl rfl (fun _ => Runs.iaA rfl f82 rfl Try.runUnderlying123 Try.sizeOf3 (chk_lo h126) (chk_hi h126)) ?_
    have hg128 := Arr.at_ a60 (k := x97.to_.toNat) (by have hz0 := chk_lt h126; omega)
    refine OKS.m rfl rfl rfl rfl (hS121.ldB (j := 2) rfl rfl rfl Try.isAgg3 (flatMap_cell (sz := 1) (fun _ => rfl) _ _ 0 _ hg128 (by first | omega | rfl) rfl)) rfl ?_
    have q := bnd hm127
    obtain ⟨x129, h130, hm131⟩ := q
    refine OKS.callV (a := ()) rfl rfl rfl rfl rfl rfl mapnil hS121 h109 rfl h130 ?_
    rintro φ132 L133 v134 W135 le136 hS137 ⟨rfl, rfl⟩
    have hS138 : St ⟨w, [], φ⟩ φ132 [.blk b111 134 [.int .i64 x97.Step.Kind, .int .i64 x97.Step.Index, .int .i64 x97.from_, .int .i64 x97.to_, (.func (.func fid114) (List.toArray fst115) (List.toArray cap116))], .blk b7 123 (List.flatMap encI a59.l), .blk b2 123 (List.flatMap encI a60.l)] W135 := hS137
    refine OKS.r rfl rfl rfl rfl (fun _ => Runs.addw rfl rfl rfl) ?_
    refine OKS.r rfl rfl rfl rfl (fun _ => Runs.lss rfl rfl rfl) ?_
    refine OKS.e ?_
    refine thenQ_n ?_
    by_cases c139 : (w64 ((a60.get x97.from_.toNat) + x129)) < (a60.get x97.to_.toNat)
    ·have hm140 := hm131; rw [if_pos c139] at hm140; replace c139 := Hid.mk c139
     refine CK.condT (decT c139.out) ?_
     have q := bnd hm140
     obtain ⟨x142, h143, hm161⟩ := q
     refine CK.anyOrd Try.mixed [3, 1, 3, 2, 3, 1, 3, 1, 3, 1, 2, 3, 3, 3, 2, 3, 0, 3, 0, 3] (.fl 0 (.fl 1 (.fl 2 (.fl 4 (.fl 5 (.fl 6 (.fl 7 (.fl 8 (.fl 9 (.fl 12 (.fl 13 (.fx 3 (.fx 10 (.fl 11 (.fl 15 (.fx 14 (.fx 16 (.fl 17 (.fx 18 (.fl 19 (.nil)) (.stop))) (.stop)) (.fx 16 (.fl 17 (.fx 14 (.fx 18 (.fl 19 (.nil)) (.stop)) (.fx 18 (.fx 14 (.fl 19 (.nil)) (.stop)) (.stop)))) (.stop))))) (.fx 14 (.fx 10 (.fl 11 (.fl 15 (.fx 16 (.fl 17 (.fx 18 (.fl 19 (.nil)) (.stop))) (.stop)))) (.stop)) (.stop))) (.fx 10 (.fl 11 (.fl 15 (.fx 3 (.fx 14 (.fx 16 (.fl 17 (.fx 18 (.fl 19 (.nil)) (.stop))) (.stop)) (.fx 16 (.fl 17 (.fx 14 (.fx 18 (.fl 19 (.nil)) (.stop)) (.fx 18 (.fx 14 (.fl 19 (.nil)) (.stop)) (.stop)))) (.stop))) (.fx 14 (.fx 3 (.fx 16 (.fl 17 (.fx 18 (.fl 19 (.nil)) (.stop))) (.stop)) (.fx 16 (.fx 3 (.fl 17 (.fx 18 (.fl 19 (.nil)) (.stop))) (.stop)) (.stop))) (.fx 16 (.fx 3 (.fl 17 (.fx 14 (.fx 18 (.fl 19 (.nil)) (.stop)) (.fx 18 (.fx 14 (.fl 19 (.nil)) (.stop)) (.stop)))) (.fx 14 (.fx 3 (.fl 17 (.fx 18 (.fl 19 (.nil)) (.stop))) (.stop)) (.stop))) (.stop)))))) (.fx 14 (.fx 3 (.fx 10 (.fl 11 (.fl 15 (.fx 16 (.fl 17 (.fx 18 (.fl 19 (.nil)) (.stop))) (.stop)))) (.stop)) (.fx 10 (.fl 11 (.fl 15 (.fx 3 (.fx 16 (.fl 17 (.fx 18 (.fl 19 (.nil)) (.stop))) (.stop)) (.fx 16 (.fx 3 (.fl 17 (.fx 18 (.fl 19 (.nil)) (.stop))) (.stop)) (.stop))))) (.stop))) (.stop))))))))))))))) (by kernel_rfl) ?_
     have hS162 := hS138.drew
     generalize hw_W163 : ({ W135 with drawn := W135.drawn + 1 } : World) = W163 at hS162 ⊢
     refine OKS.r rfl rfl rfl rfl (fun _ => Runs.fa rfl rfl Try.runUnderlying134 rfl Try.sizeOf3) ?_
     refine OKS.m rfl rfl rfl rfl (hS162.ldB (j := 0) rfl rfl rfl Try.isAgg3 (v := .int .i64 x97.to_) rfl) rfl ?_
     refine OKS.r rfl rfl rfl rfl (fun _ => Runs.fa rfl rfl Try.runUnderlying134 rfl Try.sizeOf3) ?_
     refine OKS.r rfl rfl rfl rfl (fun _ => Runs.fa rfl rfl Try.runUnderlying134 rfl Try.sizeOf3) ?_
     refine OKS.m rfl rfl rfl rfl (hS162.ldB (j := 0) rfl rfl rfl Try.isAgg3 (v := .int .i64 x97.from_) rfl) rfl ?_
     refine OKS.r rfl rfl rfl rfl (fun _ => Runs.iaA rfl f82 rfl Try.runUnderlying123 Try.sizeOf3 (chk_lo h123) (chk_hi h123)) ?_
     have hg164 := Arr.at_ a60 (k := x97.from_.toNat) (by have hz0 := chk_lt h123; omega)
     refine OKS.m rfl rfl rfl rfl (hS162.ldB (j := 2) rfl rfl rfl Try.isAgg3 (flatMap_cell (sz := 1) (fun _ => rfl) _ _ 0 _ hg164 (by first | omega | rfl) rfl)) rfl ?_
     refine OKS.r rfl rfl rfl rfl (fun _ => Runs.fa rfl rfl Try.runUnderlying134 rfl Try.sizeOf132) ?_
     refine OKS.m rfl rfl rfl rfl (hS162.ldB (j := 0) rfl rfl rfl Try.isAgg132 (v := (.func (.func fid114) (List.toArray fst115) (List.toArray cap116))) rfl) rfl ?_
     refine OKS.rm rfl rfl rfl rfl rfl rfl ?_
     refine OKS.r rfl rfl rfl rfl (fun _ => Runs.fa rfl rfl Try.runUnderlying134 rfl Try.sizeOf3) ?_
     refine OKS.both ?_ ?_
     ·refine OKS.mx2 rfl rfl rfl rfl (hS162.ldB (j := 0) rfl rfl rfl Try.isAgg3 (v := .int .i64 x97.to_) rfl) ?_
      refine OKS.both ?_ ?_
      ·have h172 := h109.le le136
       refine OKS.callV (a := ()) rfl rfl rfl rfl rfl rfl mapnil hS162 h172 rfl h143 ?_
       rintro φ166 L167 v168 W169 le170 hS171 ⟨rfl, rfl⟩
       have hS173 : St ⟨w, [], φ⟩ φ166 [.blk b111 134 [.int .i64 x97.Step.Kind, .int .i64 x97.Step.Index, .int .i64 x97.from_, .int .i64 x97.to_, (.func (.func fid114) (List.toArray fst115) (List.toArray cap116))], .blk b7 123 (List.flatMap encI a59.l), .blk b2 123 (List.flatMap encI a60.l)] W169 := hS171
       refine OKS.r rfl rfl rfl rfl (fun _ => Runs.addw rfl rfl rfl) ?_
       refine OKS.r rfl rfl rfl rfl (fun _ => Runs.iaA rfl f82 rfl Try.runUnderlying123 Try.sizeOf3 (chk_lo h126) (chk_hi h126)) ?_
       refine OKS.both ?_ ?_
       ·refine OKS.mx2 rfl rfl rfl rfl (hS173.ldB (j := 0) rfl rfl rfl Try.isAgg3 (v := .int .i64 x97.to_) rfl) ?_
        have hg174 := Arr.at_ a60 (k := x97.to_.toNat) (by have hz0 := chk_lt h126; omega)
        refine OKS.st (j := 2) (vs := [.int .i64 (w64 ((a60.get x97.from_.toNat) + x142))]) (cs' := List.flatMap encI (a60.set x97.to_.toNat (w64 ((a60.get x97.from_.toNat) + x142))).l) rfl rfl rfl rfl hS173 rfl rfl rfl rfl Try.sizeOf3 (by have hz0 := chk_lt h126; simp only [List.length_append, List.length_cons, List.length_nil, whole_len (f := encI) (sz := 1) (N := 9) a60 (fun _ => rfl) rfl]; omega) rfl (setN_at (sz := 1) (fo := 0) (fun _ => rfl) _ _ _ _ hg174 (by first | omega | rfl) (Nat.le_of_ble_eq_true rfl) rfl) rfl ?_
        intro W175 hS176
        have hS177 : St ⟨w, [], φ⟩ φ166 [.blk b111 134 [.int .i64 x97.Step.Kind, .int .i64 x97.Step.Index, .int .i64 x97.from_, .int .i64 x97.to_, (.func (.func fid114) (List.toArray fst115) (List.toArray cap116))], .blk b7 123 (List.flatMap encI a59.l), .blk b2 123 (List.flatMap encI (a60.set x97.to_.toNat (w64 ((a60.get x97.from_.toNat) + x142))).l)] W175 := hS176
        refine OKS.r rfl rfl rfl rfl (fun _ => Runs.iaA rfl f83 rfl Try.runUnderlying123 Try.sizeOf3 (chk_lo h126) (chk_hi h126)) ?_
        have hg178 := Arr.at_ a59 (k := x97.to_.toNat) (by have hz0 := chk_lt h126; omega)
        refine OKS.st (j := 1) (vs := [.int .i64 (↑k62 : Int)]) (cs' := List.flatMap encI (a59.set x97.to_.toNat (↑k62 : Int)).l) rfl rfl rfl rfl hS177 rfl rfl rfl rfl Try.sizeOf3 (by have hz0 := chk_lt h126; simp only [List.length_append, List.length_cons, List.length_nil, whole_len (f := encI) (sz := 1) (N := 9) a59 (fun _ => rfl) rfl]; omega) rfl (setN_at (sz := 1) (fo := 0) (fun _ => rfl) _ _ _ _ hg178 (by first | omega | rfl) (Nat.le_of_ble_eq_true rfl) rfl) rfl ?_
        intro W179 hS180
        have hS181 : St ⟨w, [], φ⟩ φ166 [.blk b111 134 [.int .i64 x97.Step.Kind, .int .i64 x97.Step.Index, .int .i64 x97.from_, .int .i64 x97.to_, (.func (.func fid114) (List.toArray fst115) (List.toArray cap116))], .blk b7 123 (List.flatMap encI (a59.set x97.to_.toNat (↑k62 : Int)).l), .blk b2 123 (List.flatMap encI (a60.set x97.to_.toNat (w64 ((a60.get x97.from_.toNat) + x142))).l)] W179 := hS180
        refine OKS.ra rfl rfl rfl rfl rfl rfl ?_
        refine OKS.e ?_
        refine blockQ_n ?_
        cases hm161
        exact thenQ_n ⟨rfl, ⟨φ166, f80, f81, f82, f83, rfl, f85, f86, f87, f88, fi76, (le136.trans le170), (hS181.pick [1, 2] _ (by decide) rfl)⟩⟩
       ·have hg185 := Arr.at_ a60 (k := x97.to_.toNat) (by have hz0 := chk_lt h126; omega)
        refine OKS.st (j := 2) (vs := [.int .i64 (w64 ((a60.get x97.from_.toNat) + x142))]) (cs' := List.flatMap encI (a60.set x97.to_.toNat (w64 ((a60.get x97.from_.toNat) + x142))).l) rfl rfl rfl rfl hS173 rfl rfl rfl rfl Try.sizeOf3 (by have hz0 := chk_lt h126; simp only [List.length_append, List.length_cons, List.length_nil, whole_len (f := encI) (sz := 1) (N := 9) a60 (fun _ => rfl) rfl]; omega) rfl (setN_at (sz := 1) (fo := 0) (fun _ => rfl) _ _ _ _ hg185 (by first | omega | rfl) (Nat.le_of_ble_eq_true rfl) rfl) rfl ?_
        intro W186 hS187
        have hS188 : St ⟨w, [], φ⟩ φ166 [.blk b111 134 [.int .i64 x97.Step.Kind, .int .i64 x97.Step.Index, .int .i64 x97.from_, .int .i64 x97.to_, (.func (.func fid114) (List.toArray fst115) (List.toArray cap116))], .blk b7 123 (List.flatMap encI a59.l), .blk b2 123 (List.flatMap encI (a60.set x97.to_.toNat (w64 ((a60.get x97.from_.toNat) + x142))).l)] W186 := hS187
        refine OKS.r rfl rfl rfl rfl (fun _ => Runs.iaA rfl f83 rfl Try.runUnderlying123 Try.sizeOf3 (chk_lo h126) (chk_hi h126)) ?_
        refine OKS.both ?_ ?_
        ·refine OKS.mx2 rfl rfl rfl rfl (hS188.ldB (j := 0) rfl rfl rfl Try.isAgg3 (v := .int .i64 x97.to_) rfl) ?_
         have hg189 := Arr.at_ a59 (k := x97.to_.toNat) (by have hz0 := chk_lt h126; omega)
         refine OKS.st (j := 1) (vs := [.int .i64 (↑k62 : Int)]) (cs' := List.flatMap encI (a59.set x97.to_.toNat (↑k62 : Int)).l) rfl rfl rfl rfl hS188 rfl rfl rfl rfl Try.sizeOf3 (by have hz0 := chk_lt h126; simp only [List.length_append, List.length_cons, List.length_nil, whole_len (f := encI) (sz := 1) (N := 9) a59 (fun _ => rfl) rfl]; omega) rfl (setN_at (sz := 1) (fo := 0) (fun _ => rfl) _ _ _ _ hg189 (by first | omega | rfl) (Nat.le_of_ble_eq_true rfl) rfl) rfl ?_
         intro W190 hS191
         have hS192 : St ⟨w, [], φ⟩ φ166 [.blk b111 134 [.int .i64 x97.Step.Kind, .int .i64 x97.Step.Index, .int .i64 x97.from_, .int .i64 x97.to_, (.func (.func fid114) (List.toArray fst115) (List.toArray cap116))], .blk b7 123 (List.flatMap encI (a59.set x97.to_.toNat (↑k62 : Int)).l), .blk b2 123 (List.flatMap encI (a60.set x97.to_.toNat (w64 ((a60.get x97.from_.toNat) + x142))).l)] W190 := hS191
         refine OKS.ra rfl rfl rfl rfl rfl rfl ?_
         refine OKS.e ?_
         refine blockQ_n ?_
         cases hm161
         exact thenQ_n ⟨rfl, ⟨φ166, f80, f81, f82, f83, rfl, f85, f86, f87, f88, fi76, (le136.trans le170), (hS192.pick [1, 2] _ (by decide) rfl)⟩⟩
        ·have hg196 := Arr.at_ a59 (k := x97.to_.toNat) (by have hz0 := chk_lt h126; omega)
         refine OKS.st (j := 1) (vs := [.int .i64 (↑k62 : Int)]) (cs' := List.flatMap encI (a59.set x97.to_.toNat (↑k62 : Int)).l) rfl rfl rfl rfl hS188 rfl rfl rfl rfl Try.sizeOf3 (by have hz0 := chk_lt h126; simp only [List.length_append, List.length_cons, List.length_nil, whole_len (f := encI) (sz := 1) (N := 9) a59 (fun _ => rfl) rfl]; omega) rfl (setN_at (sz := 1) (fo := 0) (fun _ => rfl) _ _ _ _ hg196 (by first | omega | rfl) (Nat.le_of_ble_eq_true rfl) rfl) rfl ?_
         intro W197 hS198
         have hS199 : St ⟨w, [], φ⟩ φ166 [.blk b111 134 [.int .i64 x97.Step.Kind, .int .i64 x97.Step.Index, .int .i64 x97.from_, .int .i64 x97.to_, (.func (.func fid114) (List.toArray fst115) (List.toArray cap116))], .blk b7 123 (List.flatMap encI (a59.set x97.to_.toNat (↑k62 : Int)).l), .blk b2 123 (List.flatMap encI (a60.set x97.to_.toNat (w64 ((a60.get x97.from_.toNat) + x142))).l)] W197 := hS198
         refine OKS.mx2 rfl rfl rfl rfl (hS199.ldB (j := 0) rfl rfl rfl Try.isAgg3 (v := .int .i64 x97.to_) rfl) ?_
         refine OKS.ra rfl rfl rfl rfl rfl rfl ?_
         refine OKS.e ?_
         refine blockQ_n ?_
         cases hm161
         exact thenQ_n ⟨rfl, ⟨φ166, f80, f81, f82, f83, rfl, f85, f86, f87, f88, fi76, (le136.trans le170), (hS199.pick [1, 2] _ (by decide) rfl)⟩⟩
      ·refine OKS.mx2 rfl rfl rfl rfl (hS162.ldB (j := 0) rfl rfl rfl Try.isAgg3 (v := .int .i64 x97.to_) rfl) ?_
       have h210 := h109.le le136
       refine OKS.callV (a := ()) rfl rfl rfl rfl rfl rfl mapnil hS162 h210 rfl h143 ?_
       rintro φ204 L205 v206 W207 le208 hS209 ⟨rfl, rfl⟩
       have hS211 : St ⟨w, [], φ⟩ φ204 [.blk b111 134 [.int .i64 x97.Step.Kind, .int .i64 x97.Step.Index, .int .i64 x97.from_, .int .i64 x97.to_, (.func (.func fid114) (List.toArray fst115) (List.toArray cap116))], .blk b7 123 (List.flatMap encI a59.l), .blk b2 123 (List.flatMap encI a60.l)] W207 := hS209
       refine OKS.r rfl rfl rfl rfl (fun _ => Runs.addw rfl rfl rfl) ?_
       refine OKS.r rfl rfl rfl rfl (fun _ => Runs.iaA rfl f82 rfl Try.runUnderlying123 Try.sizeOf3 (chk_lo h126) (chk_hi h126)) ?_
       have hg212 := Arr.at_ a60 (k := x97.to_.toNat) (by have hz0 := chk_lt h126; omega)
       refine OKS.st (j := 2) (vs := [.int .i64 (w64 ((a60.get x97.from_.toNat) + x142))]) (cs' := List.flatMap encI (a60.set x97.to_.toNat (w64 ((a60.get x97.from_.toNat) + x142))).l) rfl rfl rfl rfl hS211 rfl rfl rfl rfl Try.sizeOf3 (by have hz0 := chk_lt h126; simp only [List.length_append, List.length_cons, List.length_nil, whole_len (f := encI) (sz := 1) (N := 9) a60 (fun _ => rfl) rfl]; omega) rfl (setN_at (sz := 1) (fo := 0) (fun _ => rfl) _ _ _ _ hg212 (by first | omega | rfl) (Nat.le_of_ble_eq_true rfl) rfl) rfl ?_
       intro W213 hS214
       have hS215 : St ⟨w, [], φ⟩ φ204 [.blk b111 134 [.int .i64 x97.Step.Kind, .int .i64 x97.Step.Index, .int .i64 x97.from_, .int .i64 x97.to_, (.func (.func fid114) (List.toArray fst115) (List.toArray cap116))], .blk b7 123 (List.flatMap encI a59.l), .blk b2 123 (List.flatMap encI (a60.set x97.to_.toNat (w64 ((a60.get x97.from_.toNat) + x142))).l)] W213 := hS214
       refine OKS.r rfl rfl rfl rfl (fun _ => Runs.iaA rfl f83 rfl Try.runUnderlying123 Try.sizeOf3 (chk_lo h126) (chk_hi h126)) ?_
       have hg216 := Arr.at_ a59 (k := x97.to_.toNat) (by have hz0 := chk_lt h126; omega)
       refine OKS.st (j := 1) (vs := [.int .i64 (↑k62 : Int)]) (cs' := List.flatMap encI (a59.set x97.to_.toNat (↑k62 : Int)).l) rfl rfl rfl rfl hS215 rfl rfl rfl rfl Try.sizeOf3 (by have hz0 := chk_lt h126; simp only [List.length_append, List.length_cons, List.length_nil, whole_len (f := encI) (sz := 1) (N := 9) a59 (fun _ => rfl) rfl]; omega) rfl (setN_at (sz := 1) (fo := 0) (fun _ => rfl) _ _ _ _ hg216 (by first | omega | rfl) (Nat.le_of_ble_eq_true rfl) rfl) rfl ?_
       intro W217 hS218
       have hS219 : St ⟨w, [], φ⟩ φ204 [.blk b111 134 [.int .i64 x97.Step.Kind, .int .i64 x97.Step.Index, .int .i64 x97.from_, .int .i64 x97.to_, (.func (.func fid114) (List.toArray fst115) (List.toArray cap116))], .blk b7 123 (List.flatMap encI (a59.set x97.to_.toNat (↑k62 : Int)).l), .blk b2 123 (List.flatMap encI (a60.set x97.to_.toNat (w64 ((a60.get x97.from_.toNat) + x142))).l)] W217 := hS218
       refine OKS.ra rfl rfl rfl rfl rfl rfl ?_
       refine OKS.e ?_
       refine blockQ_n ?_
       cases hm161
       exact thenQ_n ⟨rfl, ⟨φ204, f80, f81, f82, f83, rfl, f85, f86, f87, f88, fi76, (le136.trans le208), (hS219.pick [1, 2] _ (by decide) rfl)⟩⟩
     refine OKS.both ?_ ?_
     ·have h230 := h109.le le136
      refine OKS.callV (a := ()) rfl rfl rfl rfl rfl rfl mapnil hS162 h230 rfl h143 ?_
      rintro φ224 L225 v226 W227 le228 hS229 ⟨rfl, rfl⟩
      have hS231 : St ⟨w, [], φ⟩ φ224 [.blk b111 134 [.int .i64 x97.Step.Kind, .int .i64 x97.Step.Index, .int .i64 x97.from_, .int .i64 x97.to_, (.func (.func fid114) (List.toArray fst115) (List.toArray cap116))], .blk b7 123 (List.flatMap encI a59.l), .blk b2 123 (List.flatMap encI a60.l)] W227 := hS229
      refine OKS.r rfl rfl rfl rfl (fun _ => Runs.addw rfl rfl rfl) ?_
      refine OKS.r rfl rfl rfl rfl (fun _ => Runs.iaA rfl f82 rfl Try.runUnderlying123 Try.sizeOf3 (chk_lo h126) (chk_hi h126)) ?_
      refine OKS.both ?_ ?_
      ·refine OKS.mx2 rfl rfl rfl rfl (hS231.ldB (j := 0) rfl rfl rfl Try.isAgg3 (v := .int .i64 x97.to_) rfl) ?_
       refine OKS.both ?_ ?_
       ·refine OKS.mx2 rfl rfl rfl rfl (hS231.ldB (j := 0) rfl rfl rfl Try.isAgg3 (v := .int .i64 x97.to_) rfl) ?_
        have hg232 := Arr.at_ a60 (k := x97.to_.toNat) (by have hz0 := chk_lt h126; omega)
        refine OKS.st (j := 2) (vs := [.int .i64 (w64 ((a60.get x97.from_.toNat) + x142))]) (cs' := List.flatMap encI (a60.set x97.to_.toNat (w64 ((a60.get x97.from_.toNat) + x142))).l) rfl rfl rfl rfl hS231 rfl rfl rfl rfl Try.sizeOf3 (by have hz0 := chk_lt h126; simp only [List.length_append, List.length_cons, List.length_nil, whole_len (f := encI) (sz := 1) (N := 9) a60 (fun _ => rfl) rfl]; omega) rfl (setN_at (sz := 1) (fo := 0) (fun _ => rfl) _ _ _ _ hg232 (by first | omega | rfl) (Nat.le_of_ble_eq_true rfl) rfl) rfl ?_
        intro W233 hS234
        have hS235 : St ⟨w, [], φ⟩ φ224 [.blk b111 134 [.int .i64 x97.Step.Kind, .int .i64 x97.Step.Index, .int .i64 x97.from_, .int .i64 x97.to_, (.func (.func fid114) (List.toArray fst115) (List.toArray cap116))], .blk b7 123 (List.flatMap encI a59.l), .blk b2 123 (List.flatMap encI (a60.set x97.to_.toNat (w64 ((a60.get x97.from_.toNat) + x142))).l)] W233 := hS234
        refine OKS.r rfl rfl rfl rfl (fun _ => Runs.iaA rfl f83 rfl Try.runUnderlying123 Try.sizeOf3 (chk_lo h126) (chk_hi h126)) ?_
        have hg236 := Arr.at_ a59 (k := x97.to_.toNat) (by have hz0 := chk_lt h126; omega)
        refine OKS.st (j := 1) (vs := [.int .i64 (↑k62 : Int)]) (cs' := List.flatMap encI (a59.set x97.to_.toNat (↑k62 : Int)).l) rfl rfl rfl rfl hS235 rfl rfl rfl rfl Try.sizeOf3 (by have hz0 := chk_lt h126; simp only [List.length_append, List.length_cons, List.length_nil, whole_len (f := encI) (sz := 1) (N := 9) a59 (fun _ => rfl) rfl]; omega) rfl (setN_at (sz := 1) (fo := 0) (fun _ => rfl) _ _ _ _ hg236 (by first | omega | rfl) (Nat.le_of_ble_eq_true rfl) rfl) rfl ?_
        intro W237 hS238
        have hS239 : St ⟨w, [], φ⟩ φ224 [.blk b111 134 [.int .i64 x97.Step.Kind, .int .i64 x97.Step.Index, .int .i64 x97.from_, .int .i64 x97.to_, (.func (.func fid114) (List.toArray fst115) (List.toArray cap116))], .blk b7 123 (List.flatMap encI (a59.set x97.to_.toNat (↑k62 : Int)).l), .blk b2 123 (List.flatMap encI (a60.set x97.to_.toNat (w64 ((a60.get x97.from_.toNat) + x142))).l)] W237 := hS238
        refine OKS.ra rfl rfl rfl rfl rfl rfl ?_
        refine OKS.e ?_
        refine blockQ_n ?_
        cases hm161
        exact thenQ_n ⟨rfl, ⟨φ224, f80, f81, f82, f83, rfl, f85, f86, f87, f88, fi76, (le136.trans le228), (hS239.pick [1, 2] _ (by decide) rfl)⟩⟩
       ·have hg243 := Arr.at_ a60 (k := x97.to_.toNat) (by have hz0 := chk_lt h126; omega)
        refine OKS.st (j := 2) (vs := [.int .i64 (w64 ((a60.get x97.from_.toNat) + x142))]) (cs' := List.flatMap encI (a60.set x97.to_.toNat (w64 ((a60.get x97.from_.toNat) + x142))).l) rfl rfl rfl rfl hS231 rfl rfl rfl rfl Try.sizeOf3 (by have hz0 := chk_lt h126; simp only [List.length_append, List.length_cons, List.length_nil, whole_len (f := encI) (sz := 1) (N := 9) a60 (fun _ => rfl) rfl]; omega) rfl (setN_at (sz := 1) (fo := 0) (fun _ => rfl) _ _ _ _ hg243 (by first | omega | rfl) (Nat.le_of_ble_eq_true rfl) rfl) rfl ?_
        intro W244 hS245
        have hS246 : St ⟨w, [], φ⟩ φ224 [.blk b111 134 [.int .i64 x97.Step.Kind, .int .i64 x97.Step.Index, .int .i64 x97.from_, .int .i64 x97.to_, (.func (.func fid114) (List.toArray fst115) (List.toArray cap116))], .blk b7 123 (List.flatMap encI a59.l), .blk b2 123 (List.flatMap encI (a60.set x97.to_.toNat (w64 ((a60.get x97.from_.toNat) + x142))).l)] W244 := hS245
        refine OKS.r rfl rfl rfl rfl (fun _ => Runs.iaA rfl f83 rfl Try.runUnderlying123 Try.sizeOf3 (chk_lo h126) (chk_hi h126)) ?_
        refine OKS.both ?_ ?_
        ·refine OKS.mx2 rfl rfl rfl rfl (hS246.ldB (j := 0) rfl rfl rfl Try.isAgg3 (v := .int .i64 x97.to_) rfl) ?_
         have hg247 := Arr.at_ a59 (k := x97.to_.toNat) (by have hz0 := chk_lt h126; omega)
         refine OKS.st (j := 1) (vs := [.int .i64 (↑k62 : Int)]) (cs' := List.flatMap encI (a59.set x97.to_.toNat (↑k62 : Int)).l) rfl rfl rfl rfl hS246 rfl rfl rfl rfl Try.sizeOf3 (by have hz0 := chk_lt h126; simp only [List.length_append, List.length_cons, List.length_nil, whole_len (f := encI) (sz := 1) (N := 9) a59 (fun _ => rfl) rfl]; omega) rfl (setN_at (sz := 1) (fo := 0) (fun _ => rfl) _ _ _ _ hg247 (by first | omega | rfl) (Nat.le_of_ble_eq_true rfl) rfl) rfl ?_
         intro W248 hS249
         have hS250 : St ⟨w, [], φ⟩ φ224 [.blk b111 134 [.int .i64 x97.Step.Kind, .int .i64 x97.Step.Index, .int .i64 x97.from_, .int .i64 x97.to_, (.func (.func fid114) (List.toArray fst115) (List.toArray cap116))], .blk b7 123 (List.flatMap encI (a59.set x97.to_.toNat (↑k62 : Int)).l), .blk b2 123 (List.flatMap encI (a60.set x97.to_.toNat (w64 ((a60.get x97.from_.toNat) + x142))).l)] W248 := hS249
         refine OKS.ra rfl rfl rfl rfl rfl rfl ?_
         refine OKS.e ?_
         refine blockQ_n ?_
         cases hm161
         exact thenQ_n ⟨rfl, ⟨φ224, f80, f81, f82, f83, rfl, f85, f86, f87, f88, fi76, (le136.trans le228), (hS250.pick [1, 2] _ (by decide) rfl)⟩⟩
        ·have hg254 := Arr.at_ a59 (k := x97.to_.toNat) (by have hz0 := chk_lt h126; omega)
         refine OKS.st (j := 1) (vs := [.int .i64 (↑k62 : Int)]) (cs' := List.flatMap encI (a59.set x97.to_.toNat (↑k62 : Int)).l) rfl rfl rfl rfl hS246 rfl rfl rfl rfl Try.sizeOf3 (by have hz0 := chk_lt h126; simp only [List.length_append, List.length_cons, List.length_nil, whole_len (f := encI) (sz := 1) (N := 9) a59 (fun _ => rfl) rfl]; omega) rfl (setN_at (sz := 1) (fo := 0) (fun _ => rfl) _ _ _ _ hg254 (by first | omega | rfl) (Nat.le_of_ble_eq_true rfl) rfl) rfl ?_
         intro W255 hS256
         have hS257 : St ⟨w, [], φ⟩ φ224 [.blk b111 134 [.int .i64 x97.Step.Kind, .int .i64 x97.Step.Index, .int .i64 x97.from_, .int .i64 x97.to_, (.func (.func fid114) (List.toArray fst115) (List.toArray cap116))], .blk b7 123 (List.flatMap encI (a59.set x97.to_.toNat (↑k62 : Int)).l), .blk b2 123 (List.flatMap encI (a60.set x97.to_.toNat (w64 ((a60.get x97.from_.toNat) + x142))).l)] W255 := hS256
         refine OKS.mx2 rfl rfl rfl rfl (hS257.ldB (j := 0) rfl rfl rfl Try.isAgg3 (v := .int .i64 x97.to_) rfl) ?_
         refine OKS.ra rfl rfl rfl rfl rfl rfl ?_
         refine OKS.e ?_
         refine blockQ_n ?_
         cases hm161
         exact thenQ_n ⟨rfl, ⟨φ224, f80, f81, f82, f83, rfl, f85, f86, f87, f88, fi76, (le136.trans le228), (hS257.pick [1, 2] _ (by decide) rfl)⟩⟩
      refine OKS.both ?_ ?_
      ·refine OKS.mx2 rfl rfl rfl rfl (hS231.ldB (j := 0) rfl rfl rfl Try.isAgg3 (v := .int .i64 x97.to_) rfl) ?_
       refine OKS.both ?_ ?_
       ·refine OKS.mx2 rfl rfl rfl rfl (hS231.ldB (j := 0) rfl rfl rfl Try.isAgg3 (v := .int .i64 x97.to_) rfl) ?_
        have hg261 := Arr.at_ a60 (k := x97.to_.toNat) (by have hz0 := chk_lt h126; omega)
        refine OKS.st (j := 2) (vs := [.int .i64 (w64 ((a60.get x97.from_.toNat) + x142))]) (cs' := List.flatMap encI (a60.set x97.to_.toNat (w64 ((a60.get x97.from_.toNat) + x142))).l) rfl rfl rfl rfl hS231 rfl rfl rfl rfl Try.sizeOf3 (by have hz0 := chk_lt h126; simp only [List.length_append, List.length_cons, List.length_nil, whole_len (f := encI) (sz := 1) (N := 9) a60 (fun _ => rfl) rfl]; omega) rfl (setN_at (sz := 1) (fo := 0) (fun _ => rfl) _ _ _ _ hg261 (by first | omega | rfl) (Nat.le_of_ble_eq_true rfl) rfl) rfl ?_
        intro W262 hS263
        have hS264 : St ⟨w, [], φ⟩ φ224 [.blk b111 134 [.int .i64 x97.Step.Kind, .int .i64 x97.Step.Index, .int .i64 x97.from_, .int .i64 x97.to_, (.func (.func fid114) (List.toArray fst115) (List.toArray cap116))], .blk b7 123 (List.flatMap encI a59.l), .blk b2 123 (List.flatMap encI (a60.set x97.to_.toNat (w64 ((a60.get x97.from_.toNat) + x142))).l)] W262 := hS263
        refine OKS.r rfl rfl rfl rfl (fun _ => Runs.iaA rfl f83 rfl Try.runUnderlying123 Try.sizeOf3 (chk_lo h126) (chk_hi h126)) ?_
        have hg265 := Arr.at_ a59 (k := x97.to_.toNat) (by have hz0 := chk_lt h126; omega)
        refine OKS.st (j := 1) (vs := [.int .i64 (↑k62 : Int)]) (cs' := List.flatMap encI (a59.set x97.to_.toNat (↑k62 : Int)).l) rfl rfl rfl rfl hS264 rfl rfl rfl rfl Try.sizeOf3 (by have hz0 := chk_lt h126; simp only [List.length_append, List.length_cons, List.length_nil, whole_len (f := encI) (sz := 1) (N := 9) a59 (fun _ => rfl) rfl]; omega) rfl (setN_at (sz := 1) (fo := 0) (fun _ => rfl) _ _ _ _ hg265 (by first | omega | rfl) (Nat.le_of_ble_eq_true rfl) rfl) rfl ?_
        intro W266 hS267
        have hS268 : St ⟨w, [], φ⟩ φ224 [.blk b111 134 [.int .i64 x97.Step.Kind, .int .i64 x97.Step.Index, .int .i64 x97.from_, .int .i64 x97.to_, (.func (.func fid114) (List.toArray fst115) (List.toArray cap116))], .blk b7 123 (List.flatMap encI (a59.set x97.to_.toNat (↑k62 : Int)).l), .blk b2 123 (List.flatMap encI (a60.set x97.to_.toNat (w64 ((a60.get x97.from_.toNat) + x142))).l)] W266 := hS267
        refine OKS.ra rfl rfl rfl rfl rfl rfl ?_
        refine OKS.e ?_
        refine blockQ_n ?_
        cases hm161
        exact thenQ_n ⟨rfl, ⟨φ224, f80, f81, f82, f83, rfl, f85, f86, f87, f88, fi76, (le136.trans le228), (hS268.pick [1, 2] _ (by decide) rfl)⟩⟩
       ·have hg272 := Arr.at_ a60 (k := x97.to_.toNat) (by have hz0 := chk_lt h126; omega)
        refine OKS.st (j := 2) (vs := [.int .i64 (w64 ((a60.get x97.from_.toNat) + x142))]) (cs' := List.flatMap encI (a60.set x97.to_.toNat (w64 ((a60.get x97.from_.toNat) + x142))).l) rfl rfl rfl rfl hS231 rfl rfl rfl rfl Try.sizeOf3 (by have hz0 := chk_lt h126; simp only [List.length_append, List.length_cons, List.length_nil, whole_len (f := encI) (sz := 1) (N := 9) a60 (fun _ => rfl) rfl]; omega) rfl (setN_at (sz := 1) (fo := 0) (fun _ => rfl) _ _ _ _ hg272 (by first | omega | rfl) (Nat.le_of_ble_eq_true rfl) rfl) rfl ?_
        intro W273 hS274
        have hS275 : St ⟨w, [], φ⟩ φ224 [.blk b111 134 [.int .i64 x97.Step.Kind, .int .i64 x97.Step.Index, .int .i64 x97.from_, .int .i64 x97.to_, (.func (.func fid114) (List.toArray fst115) (List.toArray cap116))], .blk b7 123 (List.flatMap encI a59.l), .blk b2 123 (List.flatMap encI (a60.set x97.to_.toNat (w64 ((a60.get x97.from_.toNat) + x142))).l)] W273 := hS274
        refine OKS.mx2 rfl rfl rfl rfl (hS275.ldB (j := 0) rfl rfl rfl Try.isAgg3 (v := .int .i64 x97.to_) rfl) ?_
        refine OKS.r rfl rfl rfl rfl (fun _ => Runs.iaA rfl f83 rfl Try.runUnderlying123 Try.sizeOf3 (chk_lo h126) (chk_hi h126)) ?_
        have hg276 := Arr.at_ a59 (k := x97.to_.toNat) (by have hz0 := chk_lt h126; omega)
        refine OKS.st (j := 1) (vs := [.int .i64 (↑k62 : Int)]) (cs' := List.flatMap encI (a59.set x97.to_.toNat (↑k62 : Int)).l) rfl rfl rfl rfl hS275 rfl rfl rfl rfl Try.sizeOf3 (by have hz0 := chk_lt h126; simp only [List.length_append, List.length_cons, List.length_nil, whole_len (f := encI) (sz := 1) (N := 9) a59 (fun _ => rfl) rfl]; omega) rfl (setN_at (sz := 1) (fo := 0) (fun _ => rfl) _ _ _ _ hg276 (by first | omega | rfl) (Nat.le_of_ble_eq_true rfl) rfl) rfl ?_
        intro W277 hS278
        have hS279 : St ⟨w, [], φ⟩ φ224 [.blk b111 134 [.int .i64 x97.Step.Kind, .int .i64 x97.Step.Index, .int .i64 x97.from_, .int .i64 x97.to_, (.func (.func fid114) (List.toArray fst115) (List.toArray cap116))], .blk b7 123 (List.flatMap encI (a59.set x97.to_.toNat (↑k62 : Int)).l), .blk b2 123 (List.flatMap encI (a60.set x97.to_.toNat (w64 ((a60.get x97.from_.toNat) + x142))).l)] W277 := hS278
        refine OKS.ra rfl rfl rfl rfl rfl rfl ?_
        refine OKS.e ?_
        refine blockQ_n ?_
        cases hm161
        exact thenQ_n ⟨rfl, ⟨φ224, f80, f81, f82, f83, rfl, f85, f86, f87, f88, fi76, (le136.trans le228), (hS279.pick [1, 2] _ (by decide) rfl)⟩⟩
      ·have hg283 := Arr.at_ a60 (k := x97.to_.toNat) (by have hz0 := chk_lt h126; omega)
       refine OKS.st (j := 2) (vs := [.int .i64 (w64 ((a60.get x97.from_.toNat) + x142))]) (cs' := List.flatMap encI (a60.set x97.to_.toNat (w64 ((a60.get x97.from_.toNat) + x142))).l) rfl rfl rfl rfl hS231 rfl rfl rfl rfl Try.sizeOf3 (by have hz0 := chk_lt h126; simp only [List.length_append, List.length_cons, List.length_nil, whole_len (f := encI) (sz := 1) (N := 9) a60 (fun _ => rfl) rfl]; omega) rfl (setN_at (sz := 1) (fo := 0) (fun _ => rfl) _ _ _ _ hg283 (by first | omega | rfl) (Nat.le_of_ble_eq_true rfl) rfl) rfl ?_
       intro W284 hS285
       have hS286 : St ⟨w, [], φ⟩ φ224 [.blk b111 134 [.int .i64 x97.Step.Kind, .int .i64 x97.Step.Index, .int .i64 x97.from_, .int .i64 x97.to_, (.func (.func fid114) (List.toArray fst115) (List.toArray cap116))], .blk b7 123 (List.flatMap encI a59.l), .blk b2 123 (List.flatMap encI (a60.set x97.to_.toNat (w64 ((a60.get x97.from_.toNat) + x142))).l)] W284 := hS285
       refine OKS.both ?_ ?_
       ·refine OKS.mx2 rfl rfl rfl rfl (hS286.ldB (j := 0) rfl rfl rfl Try.isAgg3 (v := .int .i64 x97.to_) rfl) ?_
        refine OKS.r rfl rfl rfl rfl (fun _ => Runs.iaA rfl f83 rfl Try.runUnderlying123 Try.sizeOf3 (chk_lo h126) (chk_hi h126)) ?_
        refine OKS.both ?_ ?_
        ·refine OKS.mx2 rfl rfl rfl rfl (hS286.ldB (j := 0) rfl rfl rfl Try.isAgg3 (v := .int .i64 x97.to_) rfl) ?_
         have hg287 := Arr.at_ a59 (k := x97.to_.toNat) (by have hz0 := chk_lt h126; omega)
         refine OKS.st (j := 1) (vs := [.int .i64 (↑k62 : Int)]) (cs' := List.flatMap encI (a59.set x97.to_.toNat (↑k62 : Int)).l) rfl rfl rfl rfl hS286 rfl rfl rfl rfl Try.sizeOf3 (by have hz0 := chk_lt h126; simp only [List.length_append, List.length_cons, List.length_nil, whole_len (f := encI) (sz := 1) (N := 9) a59 (fun _ => rfl) rfl]; omega) rfl (setN_at (sz := 1) (fo := 0) (fun _ => rfl) _ _ _ _ hg287 (by first | omega | rfl) (Nat.le_of_ble_eq_true rfl) rfl) rfl ?_
         intro W288 hS289
         have hS290 : St ⟨w, [], φ⟩ φ224 [.blk b111 134 [.int .i64 x97.Step.Kind, .int .i64 x97.Step.Index, .int .i64 x97.from_, .int .i64 x97.to_, (.func (.func fid114) (List.toArray fst115) (List.toArray cap116))], .blk b7 123 (List.flatMap encI (a59.set x97.to_.toNat (↑k62 : Int)).l), .blk b2 123 (List.flatMap encI (a60.set x97.to_.toNat (w64 ((a60.get x97.from_.toNat) + x142))).l)] W288 := hS289
         refine OKS.ra rfl rfl rfl rfl rfl rfl ?_
         refine OKS.e ?_
         refine blockQ_n ?_
         cases hm161
         exact thenQ_n ⟨rfl, ⟨φ224, f80, f81, f82, f83, rfl, f85, f86, f87, f88, fi76, (le136.trans le228), (hS290.pick [1, 2] _ (by decide) rfl)⟩⟩
        ·have hg294 := Arr.at_ a59 (k := x97.to_.toNat) (by have hz0 := chk_lt h126; omega)
         refine OKS.st (j := 1) (vs := [.int .i64 (↑k62 : Int)]) (cs' := List.flatMap encI (a59.set x97.to_.toNat (↑k62 : Int)).l) rfl rfl rfl rfl hS286 rfl rfl rfl rfl Try.sizeOf3 (by have hz0 := chk_lt h126; simp only [List.length_append, List.length_cons, List.length_nil, whole_len (f := encI) (sz := 1) (N := 9) a59 (fun _ => rfl) rfl]; omega) rfl (setN_at (sz := 1) (fo := 0) (fun _ => rfl) _ _ _ _ hg294 (by first | omega | rfl) (Nat.le_of_ble_eq_true rfl) rfl) rfl ?_
         intro W295 hS296
         have hS297 : St ⟨w, [], φ⟩ φ224 [.blk b111 134 [.int .i64 x97.Step.Kind, .int .i64 x97.Step.Index, .int .i64 x97.from_, .int .i64 x97.to_, (.func (.func fid114) (List.toArray fst115) (List.toArray cap116))], .blk b7 123 (List.flatMap encI (a59.set x97.to_.toNat (↑k62 : Int)).l), .blk b2 123 (List.flatMap encI (a60.set x97.to_.toNat (w64 ((a60.get x97.from_.toNat) + x142))).l)] W295 := hS296
         refine OKS.mx2 rfl rfl rfl rfl (hS297.ldB (j := 0) rfl rfl rfl Try.isAgg3 (v := .int .i64 x97.to_) rfl) ?_
         refine OKS.ra rfl rfl rfl rfl rfl rfl ?_
         refine OKS.e ?_
         refine blockQ_n ?_
         cases hm161
         exact thenQ_n ⟨rfl, ⟨φ224, f80, f81, f82, f83, rfl, f85, f86, f87, f88, fi76, (le136.trans le228), (hS297.pick [1, 2] _ (by decide) rfl)⟩⟩
       ·refine OKS.mx2 rfl rfl rfl rfl (hS286.ldB (j := 0) rfl rfl rfl Try.isAgg3 (v := .int .i64 x97.to_) rfl) ?_
        refine OKS.mx2 rfl rfl rfl rfl (hS286.ldB (j := 0) rfl rfl rfl Try.isAgg3 (v := .int .i64 x97.to_) rfl) ?_
        refine OKS.r rfl rfl rfl rfl (fun _ => Runs.iaA rfl f83 rfl Try.runUnderlying123 Try.sizeOf3 (chk_lo h126) (chk_hi h126)) ?_
        have hg301 := Arr.at_ a59 (k := x97.to_.toNat) (by have hz0 := chk_lt h126; omega)
        refine OKS.st (j := 1) (vs := [.int .i64 (↑k62 : Int)]) (cs' := List.flatMap encI (a59.set x97.to_.toNat (↑k62 : Int)).l) rfl rfl rfl rfl hS286 rfl rfl rfl rfl Try.sizeOf3 (by have hz0 := chk_lt h126; simp only [List.length_append, List.length_cons, List.length_nil, whole_len (f := encI) (sz := 1) (N := 9) a59 (fun _ => rfl) rfl]; omega) rfl (setN_at (sz := 1) (fo := 0) (fun _ => rfl) _ _ _ _ hg301 (by first | omega | rfl) (Nat.le_of_ble_eq_true rfl) rfl) rfl ?_
        intro W302 hS303
        have hS304 : St ⟨w, [], φ⟩ φ224 [.blk b111 134 [.int .i64 x97.Step.Kind, .int .i64 x97.Step.Index, .int .i64 x97.from_, .int .i64 x97.to_, (.func (.func fid114) (List.toArray fst115) (List.toArray cap116))], .blk b7 123 (List.flatMap encI (a59.set x97.to_.toNat (↑k62 : Int)).l), .blk b2 123 (List.flatMap encI (a60.set x97.to_.toNat (w64 ((a60.get x97.from_.toNat) + x142))).l)] W302 := hS303
        refine OKS.ra rfl rfl rfl rfl rfl rfl ?_
        refine OKS.e ?_
        refine blockQ_n ?_
        cases hm161
        exact thenQ_n ⟨rfl, ⟨φ224, f80, f81, f82, f83, rfl, f85, f86, f87, f88, fi76, (le136.trans le228), (hS304.pick [1, 2] _ (by decide) rfl)⟩⟩
     ·refine OKS.mx2 rfl rfl rfl rfl (hS162.ldB (j := 0) rfl rfl rfl Try.isAgg3 (v := .int .i64 x97.to_) rfl) ?_
      refine OKS.both ?_ ?_
      ·refine OKS.mx2 rfl rfl rfl rfl (hS162.ldB (j := 0) rfl rfl rfl Try.isAgg3 (v := .int .i64 x97.to_) rfl) ?_
       have h315 := h109.le le136
       refine OKS.callV (a := ()) rfl rfl rfl rfl rfl rfl mapnil hS162 h315 rfl h143 ?_
       rintro φ309 L310 v311 W312 le313 hS314 ⟨rfl, rfl⟩
       have hS316 : St ⟨w, [], φ⟩ φ309 [.blk b111 134 [.int .i64 x97.Step.Kind, .int .i64 x97.Step.Index, .int .i64 x97.from_, .int .i64 x97.to_, (.func (.func fid114) (List.toArray fst115) (List.toArray cap116))], .blk b7 123 (List.flatMap encI a59.l), .blk b2 123 (List.flatMap encI a60.l)] W312 := hS314
       refine OKS.r rfl rfl rfl rfl (fun _ => Runs.addw rfl rfl rfl) ?_
       refine OKS.r rfl rfl rfl rfl (fun _ => Runs.iaA rfl f82 rfl Try.runUnderlying123 Try.sizeOf3 (chk_lo h126) (chk_hi h126)) ?_
       have hg317 := Arr.at_ a60 (k := x97.to_.toNat) (by have hz0 := chk_lt h126; omega)
       refine OKS.st (j := 2) (vs := [.int .i64 (w64 ((a60.get x97.from_.toNat) + x142))]) (cs' := List.flatMap encI (a60.set x97.to_.toNat (w64 ((a60.get x97.from_.toNat) + x142))).l) rfl rfl rfl rfl hS316 rfl rfl rfl rfl Try.sizeOf3 (by have hz0 := chk_lt h126; simp only [List.length_append, List.length_cons, List.length_nil, whole_len (f := encI) (sz := 1) (N := 9) a60 (fun _ => rfl) rfl]; omega) rfl (setN_at (sz := 1) (fo := 0) (fun _ => rfl) _ _ _ _ hg317 (by first | omega | rfl) (Nat.le_of_ble_eq_true rfl) rfl) rfl ?_
       intro W318 hS319
       have hS320 : St ⟨w, [], φ⟩ φ309 [.blk b111 134 [.int .i64 x97.Step.Kind, .int .i64 x97.Step.Index, .int .i64 x97.from_, .int .i64 x97.to_, (.func (.func fid114) (List.toArray fst115) (List.toArray cap116))], .blk b7 123 (List.flatMap encI a59.l), .blk b2 123 (List.flatMap encI (a60.set x97.to_.toNat (w64 ((a60.get x97.from_.toNat) + x142))).l)] W318 := hS319
       refine OKS.r rfl rfl rfl rfl (fun _ => Runs.iaA rfl f83 rfl Try.runUnderlying123 Try.sizeOf3 (chk_lo h126) (chk_hi h126)) ?_
       have hg321 := Arr.at_ a59 (k := x97.to_.toNat) (by have hz0 := chk_lt h126; omega)
       refine OKS.st (j := 1) (vs := [.int .i64 (↑k62 : Int)]) (cs' := List.flatMap encI (a59.set x97.to_.toNat (↑k62 : Int)).l) rfl rfl rfl rfl hS320 rfl rfl rfl rfl Try.sizeOf3 (by have hz0 := chk_lt h126; simp only [List.length_append, List.length_cons, List.length_nil, whole_len (f := encI) (sz := 1) (N := 9) a59 (fun _ => rfl) rfl]; omega) rfl (setN_at (sz := 1) (fo := 0) (fun _ => rfl) _ _ _ _ hg321 (by first | omega | rfl) (Nat.le_of_ble_eq_true rfl) rfl) rfl ?_
       intro W322 hS323
       have hS324 : St ⟨w, [], φ⟩ φ309 [.blk b111 134 [.int .i64 x97.Step.Kind, .int .i64 x97.Step.Index, .int .i64 x97.from_, .int .i64 x97.to_, (.func (.func fid114) (List.toArray fst115) (List.toArray cap116))], .blk b7 123 (List.flatMap encI (a59.set x97.to_.toNat (↑k62 : Int)).l), .blk b2 123 (List.flatMap encI (a60.set x97.to_.toNat (w64 ((a60.get x97.from_.toNat) + x142))).l)] W322 := hS323
       refine OKS.ra rfl rfl rfl rfl rfl rfl ?_
       refine OKS.e ?_
       refine blockQ_n ?_
       cases hm161
       exact thenQ_n ⟨rfl, ⟨φ309, f80, f81, f82, f83, rfl, f85, f86, f87, f88, fi76, (le136.trans le313), (hS324.pick [1, 2] _ (by decide) rfl)⟩⟩
      ·have h335 := h109.le le136
       refine OKS.callV (a := ()) rfl rfl rfl rfl rfl rfl mapnil hS162 h335 rfl h143 ?_
       rintro φ329 L330 v331 W332 le333 hS334 ⟨rfl, rfl⟩
       have hS336 : St ⟨w, [], φ⟩ φ329 [.blk b111 134 [.int .i64 x97.Step.Kind, .int .i64 x97.Step.Index, .int .i64 x97.from_, .int .i64 x97.to_, (.func (.func fid114) (List.toArray fst115) (List.toArray cap116))], .blk b7 123 (List.flatMap encI a59.l), .blk b2 123 (List.flatMap encI a60.l)] W332 := hS334
       refine OKS.r rfl rfl rfl rfl (fun _ => Runs.addw rfl rfl rfl) ?_
       refine OKS.r rfl rfl rfl rfl (fun _ => Runs.iaA rfl f82 rfl Try.runUnderlying123 Try.sizeOf3 (chk_lo h126) (chk_hi h126)) ?_
       refine OKS.both ?_ ?_
       ·refine OKS.mx2 rfl rfl rfl rfl (hS336.ldB (j := 0) rfl rfl rfl Try.isAgg3 (v := .int .i64 x97.to_) rfl) ?_
        have hg337 := Arr.at_ a60 (k := x97.to_.toNat) (by have hz0 := chk_lt h126; omega)
        refine OKS.st (j := 2) (vs := [.int .i64 (w64 ((a60.get x97.from_.toNat) + x142))]) (cs' := List.flatMap encI (a60.set x97.to_.toNat (w64 ((a60.get x97.from_.toNat) + x142))).l) rfl rfl rfl rfl hS336 rfl rfl rfl rfl Try.sizeOf3 (by have hz0 := chk_lt h126; simp only [List.length_append, List.length_cons, List.length_nil, whole_len (f := encI) (sz := 1) (N := 9) a60 (fun _ => rfl) rfl]; omega) rfl (setN_at (sz := 1) (fo := 0) (fun _ => rfl) _ _ _ _ hg337 (by first | omega | rfl) (Nat.le_of_ble_eq_true rfl) rfl) rfl ?_
        intro W338 hS339
        have hS340 : St ⟨w, [], φ⟩ φ329 [.blk b111 134 [.int .i64 x97.Step.Kind, .int .i64 x97.Step.Index, .int .i64 x97.from_, .int .i64 x97.to_, (.func (.func fid114) (List.toArray fst115) (List.toArray cap116))], .blk b7 123 (List.flatMap encI a59.l), .blk b2 123 (List.flatMap encI (a60.set x97.to_.toNat (w64 ((a60.get x97.from_.toNat) + x142))).l)] W338 := hS339
        refine OKS.r rfl rfl rfl rfl (fun _ => Runs.iaA rfl f83 rfl Try.runUnderlying123 Try.sizeOf3 (chk_lo h126) (chk_hi h126)) ?_
        have hg341 := Arr.at_ a59 (k := x97.to_.toNat) (by have hz0 := chk_lt h126; omega)
        refine OKS.st (j := 1) (vs := [.int .i64 (↑k62 : Int)]) (cs' := List.flatMap encI (a59.set x97.to_.toNat (↑k62 : Int)).l) rfl rfl rfl rfl hS340 rfl rfl rfl rfl Try.sizeOf3 (by have hz0 := chk_lt h126; simp only [List.length_append, List.length_cons, List.length_nil, whole_len (f := encI) (sz := 1) (N := 9) a59 (fun _ => rfl) rfl]; omega) rfl (setN_at (sz := 1) (fo := 0) (fun _ => rfl) _ _ _ _ hg341 (by first | omega | rfl) (Nat.le_of_ble_eq_true rfl) rfl) rfl ?_
        intro W342 hS343
        have hS344 : St ⟨w, [], φ⟩ φ329 [.blk b111 134 [.int .i64 x97.Step.Kind, .int .i64 x97.Step.Index, .int .i64 x97.from_, .int .i64 x97.to_, (.func (.func fid114) (List.toArray fst115) (List.toArray cap116))], .blk b7 123 (List.flatMap encI (a59.set x97.to_.toNat (↑k62 : Int)).l), .blk b2 123 (List.flatMap encI (a60.set x97.to_.toNat (w64 ((a60.get x97.from_.toNat) + x142))).l)] W342 := hS343
        refine OKS.ra rfl rfl rfl rfl rfl rfl ?_
        refine OKS.e ?_
        refine blockQ_n ?_
        cases hm161
        exact thenQ_n ⟨rfl, ⟨φ329, f80, f81, f82, f83, rfl, f85, f86, f87, f88, fi76, (le136.trans le333), (hS344.pick [1, 2] _ (by decide) rfl)⟩⟩
       ·have hg348 := Arr.at_ a60 (k := x97.to_.toNat) (by have hz0 := chk_lt h126; omega)
        refine OKS.st (j := 2) (vs := [.int .i64 (w64 ((a60.get x97.from_.toNat) + x142))]) (cs' := List.flatMap encI (a60.set x97.to_.toNat (w64 ((a60.get x97.from_.toNat) + x142))).l) rfl rfl rfl rfl hS336 rfl rfl rfl rfl Try.sizeOf3 (by have hz0 := chk_lt h126; simp only [List.length_append, List.length_cons, List.length_nil, whole_len (f := encI) (sz := 1) (N := 9) a60 (fun _ => rfl) rfl]; omega) rfl (setN_at (sz := 1) (fo := 0) (fun _ => rfl) _ _ _ _ hg348 (by first | omega | rfl) (Nat.le_of_ble_eq_true rfl) rfl) rfl ?_
        intro W349 hS350
        have hS351 : St ⟨w, [], φ⟩ φ329 [.blk b111 134 [.int .i64 x97.Step.Kind, .int .i64 x97.Step.Index, .int .i64 x97.from_, .int .i64 x97.to_, (.func (.func fid114) (List.toArray fst115) (List.toArray cap116))], .blk b7 123 (List.flatMap encI a59.l), .blk b2 123 (List.flatMap encI (a60.set x97.to_.toNat (w64 ((a60.get x97.from_.toNat) + x142))).l)] W349 := hS350
        refine OKS.mx2 rfl rfl rfl rfl (hS351.ldB (j := 0) rfl rfl rfl Try.isAgg3 (v := .int .i64 x97.to_) rfl) ?_
        refine OKS.r rfl rfl rfl rfl (fun _ => Runs.iaA rfl f83 rfl Try.runUnderlying123 Try.sizeOf3 (chk_lo h126) (chk_hi h126)) ?_
        have hg352 := Arr.at_ a59 (k := x97.to_.toNat) (by have hz0 := chk_lt h126; omega)
        refine OKS.st (j := 1) (vs := [.int .i64 (↑k62 : Int)]) (cs' := List.flatMap encI (a59.set x97.to_.toNat (↑k62 : Int)).l) rfl rfl rfl rfl hS351 rfl rfl rfl rfl Try.sizeOf3 (by have hz0 := chk_lt h126; simp only [List.length_append, List.length_cons, List.length_nil, whole_len (f := encI) (sz := 1) (N := 9) a59 (fun _ => rfl) rfl]; omega) rfl (setN_at (sz := 1) (fo := 0) (fun _ => rfl) _ _ _ _ hg352 (by first | omega | rfl) (Nat.le_of_ble_eq_true rfl) rfl) rfl ?_
        intro W353 hS354
        have hS355 : St ⟨w, [], φ⟩ φ329 [.blk b111 134 [.int .i64 x97.Step.Kind, .int .i64 x97.Step.Index, .int .i64 x97.from_, .int .i64 x97.to_, (.func (.func fid114) (List.toArray fst115) (List.toArray cap116))], .blk b7 123 (List.flatMap encI (a59.set x97.to_.toNat (↑k62 : Int)).l), .blk b2 123 (List.flatMap encI (a60.set x97.to_.toNat (w64 ((a60.get x97.from_.toNat) + x142))).l)] W353 := hS354
        refine OKS.ra rfl rfl rfl rfl rfl rfl ?_
        refine OKS.e ?_
        refine blockQ_n ?_
        cases hm161
        exact thenQ_n ⟨rfl, ⟨φ329, f80, f81, f82, f83, rfl, f85, f86, f87, f88, fi76, (le136.trans le333), (hS355.pick [1, 2] _ (by decide) rfl)⟩⟩
    ·have hm359 := hm131; rw [if_neg c139] at hm359; replace c139 := Hid.mk c139
     refine CK.condF (decF c139.out) ?_
     refine CK.skip ?_
     refine blockQ_n ?_
     cases hm359
     exact thenQ_n ⟨rfl, ⟨φ132, f80, f81, f82, f83, f84, f85, f86, f87, f88, fi76, le136, (hS138.pick [1, 2] _ (by decide) rfl)⟩⟩
   ·rintro σ363 W364 ⟨φ365, f368, f369, f370, f371, f372, f373, f374, f375, f376, f377, le366, hS367⟩
    refine CK.reg (ks := []) (.fl 0 (.fl 1 (.nil))) rfl ?_
    refine OKS.r rfl rfl rfl rfl (fun _ => Runs.to (Runs.addw rfl f377 rfl) (congrArg (Value.int .i64) hi90.out)) ?_
    refine OKS.rm rfl rfl rfl rfl rfl rfl ?_
    refine OKS.e ?_
    cases hm96
    exact thenQ_n ⟨rfl, ⟨φ365, rfl, f368, f369, f370, f371, f372, f373, f374, f375, f376, (le78.trans le366), hS367⟩⟩
  ·rintro σ381 W382 ⟨φ388, fi384, f391, f392, f393, f394, f395, f396, f397, f398, f399, le389, hS390⟩
   have c400 : Hid (¬ ((↑(((↑p1.length : Int) : Int) - 0).toNat : Int) < (↑p1.length : Int))) := Hid.mk (lp_end0)
   refine CK.seq ?_
   refine CK.reg (ks := []) (.fl 0 (.nil)) rfl ?_
   refine OKS.r rfl rfl rfl rfl (fun _ => Runs.lss rfl fi384 f399) ?_
   refine OKS.e ?_
   refine thenQ_n ?_
   refine CK.seq ?_
   refine CK.condF (decF c400.out) ?_
   refine CK.exit ?_
   refine thenQ_e ?_
   refine thenQ_e ?_
   refine blockQ_h ?_
   refine thenQ_n ?_
   refine CK.seq ?_
   refine CK.reg (ks := []) (.fl 0 (.fl 1 (.nil))) rfl ?_
   refine OKS.rm rfl rfl rfl rfl rfl f395 ?_
   refine OKS.r rfl rfl rfl rfl (fun _ => Runs.lss rfl rfl rfl) ?_
   refine OKS.e ?_
   refine thenQ_n ?_
   by_cases c401 : y69 < 0
   ·have hm402 := hm63; rw [if_pos c401] at hm402; replace c401 := Hid.mk c401
    refine CK.condT (decT c401.out) ?_
    refine CK.exit ?_
    refine blockQ_m ?_
    refine thenQ_e ?_
    have q := esc_spec hm402
    obtain ⟨v403, hm404, e405⟩ := q
    obtain rfl := jn_inr hm hX27 (hb34 v403 e405)
    refine thenQ_e ?_
    refine blockQ_h ?_
    refine thenQ_n ?_
    refine CK.seq ?_
    refine CK.seq ?_
    refine CK.reg (ks := []) (.fl 0 (.fl 1 (.nil))) rfl ?_
    refine OKS.rm rfl rfl rfl rfl rfl f395 ?_
    refine OKS.r rfl rfl rfl rfl (fun _ => Runs.lss rfl rfl rfl) ?_
    refine OKS.e ?_
    refine thenQ_n ?_
    refine CK.condT (decT c401.out) ?_
    refine CK.seq ?_
    refine CK.reg (ks := []) (.fl 0 (.nil)) rfl ?_
    refine OKS.ra rfl rfl rfl rfl rfl rfl ?_
    refine OKS.e ?_
    refine thenQ_n ?_
    refine CK.ret ?_
    refine thenQ_r ?_
    refine scopeQ_r ?_
    have hS406 := hS390.nilrow 35 2
    cases hm404
    exact ⟨rfl, _, (res1 rfl), φ388, _, (hS406.pick [0] _ (by decide) rfl), none, 0, rfl, rfl, (fun _ => rfl)⟩
   ·have hm408 := hm63; rw [if_neg c401] at hm408; replace c401 := Hid.mk c401
    refine CK.condF (decF c401.out) ?_
    refine CK.skip ?_
    refine blockQ_n ?_
    refine thenQ_n ?_
    refine CK.reg (ks := []) (.fl 0 (.fl 1 (.nil))) rfl ?_
    refine OKS.r rfl rfl rfl rfl (fun _ => Runs.to (Runs.addw rfl f397 rfl) (congrArg (Value.int .i64) hi47.out)) ?_
    refine OKS.rm rfl rfl rfl rfl rfl rfl ?_
    refine OKS.e ?_
    obtain rfl := Option.some.inj hm408
    exact thenQ_n ⟨rfl, _, rfl, ⟨φ388, rfl, f391, f392, f393, f394, f395, f396, (le38.trans le389), hS390⟩⟩
 ·rintro ⟨y416, y417, y418⟩ σ412 W413 ⟨φ419, fi415, f422, f423, f424, f425, f426, f427, le420, hS421⟩ hb414
  have hm428 := jn_inl hm hX27 hb414
  try dsimp only at hm428
  have c429 : Hid (¬ ((↑((w64 (p0 + 2) : Int) - 0).toNat : Int) < (w64 (p0 + 2)))) := Hid.mk (lp_end0)
  refine CK.seq ?_
  refine CK.reg (ks := []) (.fl 0 (.nil)) rfl ?_
  refine OKS.r rfl rfl rfl rfl (fun _ => Runs.lss rfl fi415 f427) ?_
  refine OKS.e ?_
  refine thenQ_n ?_
  refine CK.seq ?_
  refine CK.condF (decF c429.out) ?_
  refine CK.exit ?_
  refine thenQ_e ?_
  refine thenQ_e ?_
  refine blockQ_h ?_
  refine thenQ_n ?_
  refine CK.seq ?_
  refine CK.seq ?_
  refine CK.reg (ks := []) (.fl 0 (.fl 1 (.nil))) rfl ?_
  refine OKS.rm rfl rfl rfl rfl rfl f426 ?_
  refine OKS.r rfl rfl rfl rfl (fun _ => Runs.lss rfl rfl rfl) ?_
  refine OKS.e ?_
  refine thenQ_n ?_
  by_cases c430 : y418 < 0
  ·have hm431 := hm428; rw [if_pos c430] at hm431; replace c430 := Hid.mk c430
   refine CK.condT (decT c430.out) ?_
   refine CK.seq ?_
   refine CK.reg (ks := []) (.fl 0 (.nil)) rfl ?_
   refine OKS.ra rfl rfl rfl rfl rfl rfl ?_
   refine OKS.e ?_
   refine thenQ_n ?_
   refine CK.ret ?_
   refine thenQ_r ?_
   refine scopeQ_r ?_
   have hS432 := hS421.nilrow 35 2
   cases hm431
   exact ⟨rfl, _, (res1 rfl), φ419, _, (hS432.pick [0] _ (by decide) rfl), none, 0, rfl, rfl, (fun _ => rfl)⟩
  ·have hm434 := hm428; rw [if_neg c430] at hm434; replace c430 := Hid.mk c430
   refine CK.condF (decF c430.out) ?_
   refine CK.skip ?_
   refine thenQ_n ?_
   refine CK.seq ?_
   refine CK.seq ?_
   refine CK.reg (ks := []) (.fl 0 (.fl 1 (.fl 2 (.nil)))) rfl ?_
   refine OKS.rm rfl rfl rfl rfl rfl f422 ?_
   refine OKS.r rfl rfl rfl rfl (fun _ => Runs.addw rfl rfl rfl) ?_
   refine OKS.rm rfl rfl rfl rfl rfl rfl ?_
   refine OKS.e ?_
   refine thenQ_n ?_
   refine CK.block ?_
   have q := bnd hm434
   obtain ⟨y446, hf443, hm442⟩ := q
   have q := forR'_le hf443
   obtain ⟨hle444, hf445⟩ := q
   replace hle444 := Hid.mk hle444
   refine CK.forN' (fun k441 x440 σ_ w_ => ∃ (φ_ : PHeap), σ_ 62 = .int .i64 (↑k441 : Int) ∧ σ_ 1 = .slice pA1 p1.length pc1 ∧ σ_ 6 = .pointer (some ⟨b7, 0, none⟩) ∧ σ_ 7 = .int .i64 x440 ∧ σ_ 61 = .int .i64 (w64 (p0 + 1)) ∧ PHeap.Le φ419 φ_ ∧ St ⟨w, [], φ⟩ φ_ [.blk b7 123 (List.flatMap encI y416.l), .blk b2 123 (List.flatMap encI y417.l)] w_) hf445 ?_ ?_ ?_
   ·exact ⟨φ419, rfl, f423, f425, f426, rfl, (PHeap.Le.refl _), hS421⟩
   ·rintro k441 x440 xx449 σ447 W448 hk452 ⟨φ454, fi453, f457, f458, f459, f460, le455, hS456⟩ hx450
    have c461 : Hid ((↑k441 : Int) < (w64 (p0 + 1))) := Hid.mk (lp_lt0 hk452)
    replace hk452 := Hid.mk hk452
    have hi462 : Hid (w64 ((↑k441 : Int) + 1) = (↑(k441 + 1) : Int)) := Hid.mk (by have h1 := hle444.out; have h2 := c461.out; rw [w64_in] <;> omega)
    refine CK.seq ?_
    refine CK.reg (ks := []) (.fl 0 (.nil)) rfl ?_
    refine OKS.r rfl rfl rfl rfl (fun _ => Runs.lss rfl fi453 f460) ?_
    refine OKS.e ?_
    refine thenQ_n ?_
    refine CK.seq ?_
    refine CK.condT (decT c461.out) ?_
    refine CK.skip ?_
    refine thenQ_n ?_
    refine CK.seq ?_
    refine CK.block ?_
    refine CK.reg (ks := []) (.fl 0 (.fl 1 (.fl 2 (.fl 3 (.fl 4 (.fl 5 (.fl 6 (.fl 7 (.nil))))))))) rfl ?_
    refine OKS.rm rfl rfl rfl rfl rfl f457 ?_
    refine OKS.rm rfl rfl rfl rfl rfl f459 ?_
    have q := bnd hx450
    obtain ⟨_, h463, hm464⟩ := q
    refine OKS.r rfl rfl rfl rfl (fun _ => Runs.iaA rfl f458 rfl Try.runUnderlying123 Try.sizeOf3 (chk_lo h463) (chk_hi h463)) ?_
    have hg465 := Arr.at_ y416 (k := x440.toNat) (by have hz0 := chk_lt h463; omega)
    refine OKS.m rfl rfl rfl rfl (hS456.ldB (j := 0) rfl rfl rfl Try.isAgg3 (flatMap_cell (sz := 1) (fun _ => rfl) _ _ 0 _ hg465 (by first | omega | rfl) rfl)) rfl ?_
    have q := bnd hm464
    obtain ⟨x466, h467, hm468⟩ := q
    have h469 := ha0.le le420
    have h470 := h469.le le455
    have q := h470.el (idx_get h467)
    obtain ⟨b471, off472, vs475, hA473, hC474, hr476⟩ := q
    obtain ⟨pv477, rfl, h478⟩ := hr476
    replace hC474 : Cl φ454 b471 (off472 + (y416.get x440.toNat).toNat * 5) [.int .i64 x466.Step.Kind, .int .i64 x466.Step.Index, .int .i64 x466.from_, .int .i64 x466.to_, pv477] := hC474
    refine OKS.r rfl rfl rfl rfl (fun _ => Runs.iaI rfl rfl hA473 rfl Try.runUnderlying127 Try.sizeOf134 (idx_lo h467) (idx_hi h467)) ?_
    refine OKS.r rfl rfl rfl rfl (fun _ => Runs.fa rfl rfl Try.runUnderlying134 rfl Try.sizeOf3) ?_
    refine OKS.m rfl rfl rfl rfl (hS456.ldC (f := 2) hC474 (v := .int .i64 x466.from_) rfl rfl Try.isAgg3 rfl) rfl ?_
    refine OKS.ra rfl rfl rfl rfl rfl rfl ?_
    refine OKS.e ?_
    refine blockQ_n ?_
    refine thenQ_n ?_
    refine CK.reg (ks := []) (.fl 0 (.fl 1 (.nil))) rfl ?_
    refine OKS.r rfl rfl rfl rfl (fun _ => Runs.to (Runs.addw rfl fi453 rfl) (congrArg (Value.int .i64) hi462.out)) ?_
    refine OKS.rm rfl rfl rfl rfl rfl rfl ?_
    refine OKS.e ?_
    cases hm468
    exact thenQ_n ⟨rfl, ⟨φ454, rfl, f457, f458, rfl, f460, le455, hS456⟩⟩
   ·rintro σ480 W481 ⟨φ485, fi483, f488, f489, f490, f491, le486, hS487⟩
    have c492 : Hid (¬ ((↑((w64 (p0 + 1) : Int) - 0).toNat : Int) < (w64 (p0 + 1)))) := Hid.mk (lp_end0)
    refine CK.seq ?_
    refine CK.reg (ks := []) (.fl 0 (.nil)) rfl ?_
    refine OKS.r rfl rfl rfl rfl (fun _ => Runs.lss rfl fi483 f491) ?_
    refine OKS.e ?_
    refine thenQ_n ?_
    refine CK.seq ?_
    refine CK.condF (decF c492.out) ?_
    refine CK.exit ?_
    refine thenQ_e ?_
    refine thenQ_e ?_
    refine blockQ_h ?_
    refine thenQ_n ?_
    refine CK.seq ?_
    refine CK.reg (ks := []) (.fl 0 (.nil)) rfl ?_
    refine OKS.ra rfl rfl rfl rfl rfl rfl ?_
    refine OKS.e ?_
    refine thenQ_n ?_
    refine CK.seq ?_
    refine CK.reg (ks := []) (.fl 0 (.fl 1 (.nil))) rfl ?_
    refine OKS.rm rfl rfl rfl rfl rfl f490 ?_
    refine OKS.ra rfl rfl rfl rfl rfl rfl ?_
    refine OKS.e ?_
    refine thenQ_n ?_
    have q := bnd hm442
    obtain ⟨l493, hx497, hm498⟩ := q
    refine CK.cut (fun σ_ w_ => ∃ (φ_ : PHeap) (A494 : Option Addr) (c495 : Nat), σ_ 10 = .slice A494 l493.length c495 ∧ PHeap.Le φ485 φ_ ∧ St ⟨w, [], φ⟩ φ_ [.blk b7 123 (List.flatMap encI y416.l), .blk b2 123 (List.flatMap encI y417.l), .row A494 c495 35 2 (List.flatMap encT_target_Step l493)] w_) ?_ ?_
    ·refine CK.block ?_
     refine CK.iter (fun (l513, x517) σ_ w_ => ∃ (φ_ : PHeap) (A514 : Option Addr) (c515 : Nat), σ_ 1 = .slice pA1 p1.length pc1 ∧ σ_ 6 = .pointer (some ⟨b7, 0, none⟩) ∧ σ_ 7 = .int .i64 y446 ∧ σ_ 10 = .slice A514 l513.length c515 ∧ σ_ 11 = .int .i64 x517 ∧ PHeap.Le φ485 φ_ ∧ St ⟨w, [], φ⟩ φ_ [.blk b7 123 (List.flatMap encI y416.l), .blk b2 123 (List.flatMap encI y417.l), .row A514 c515 35 2 (List.flatMap encT_target_Step l513)] w_) hx497 ?_ ?_
     ·have hS518 := hS487.nilrow 35 2
      exact ⟨φ485, none, 0, f488, f489, f490, rfl, rfl, (PHeap.Le.refl _), (hS518.pick [1, 2, 0] _ (by decide) rfl)⟩
     ·rintro ⟨l513, x517⟩ xx522 σ520 W521 ⟨φ527, A514, c515, f530, f531, f532, f533, f534, le528, hS529⟩ hx523 hb524
      try dsimp only at hx523
      refine CK.block ?_
      refine CK.seq ?_
      refine CK.reg (ks := []) (.fl 0 (.fl 1 (.fl 2 (.fl 3 (.fl 4 (.fl 5 (.fx 6 (.fx 7 (.nil) .stop) .stop))))))) rfl ?_
      refine OKS.rm rfl rfl rfl rfl rfl f530 ?_
      refine OKS.rm rfl rfl rfl rfl rfl f534 ?_
      have q := bnd hx523
      obtain ⟨_, h535, hm536⟩ := q
      refine OKS.r rfl rfl rfl rfl (fun _ => Runs.iaA rfl f531 rfl Try.runUnderlying123 Try.sizeOf3 (chk_lo h535) (chk_hi h535)) ?_
      have hg537 := Arr.at_ y416 (k := x517.toNat) (by have hz0 := chk_lt h535; omega)
      refine OKS.m rfl rfl rfl rfl (hS529.ldB (j := 0) rfl rfl rfl Try.isAgg3 (flatMap_cell (sz := 1) (fun _ => rfl) _ _ 0 _ hg537 (by first | omega | rfl) rfl)) rfl ?_
      have q := bnd hm536
      obtain ⟨x538, h539, hm540⟩ := q
      have h541 := ha0.le le420
      have h542 := h541.le le486
      have h543 := h542.le le528
      have q := h543.el (idx_get h539)
      obtain ⟨b544, off545, vs548, hA546, hC547, hr549⟩ := q
      obtain ⟨pv550, rfl, h551⟩ := hr549
      replace hC547 : Cl φ527 b544 (off545 + (y416.get x517.toNat).toNat * 5) [.int .i64 x538.Step.Kind, .int .i64 x538.Step.Index, .int .i64 x538.from_, .int .i64 x538.to_, pv550] := hC547
      refine OKS.r rfl rfl rfl rfl (fun _ => Runs.iaI rfl rfl hA546 rfl Try.runUnderlying127 Try.sizeOf134 (idx_lo h539) (idx_hi h539)) ?_
      refine OKS.m rfl rfl rfl rfl (hS529.ldCA (f := 0) hC547 rfl rfl Try.isAgg134 Try.sizeOf134 (us := [.int .i64 x538.Step.Kind, .int .i64 x538.Step.Index, .int .i64 x538.from_, .int .i64 x538.to_, pv550]) rfl rfl) rfl ?_
      refine OKS.alloc (cs := [.int .i64 0, .int .i64 0, .int .i64 0, .int .i64 0, .nilFunc]) rfl rfl rfl rfl rfl Try.zeroValue134 rfl hS529 ?_
      intro W552 b553 hS554
      have q := id h551
      obtain ⟨fid556, fst557, cap558, he559, _⟩ := q
      subst he559
      refine OKS.st (j := 0) (vs := [.int .i64 x538.Step.Kind, .int .i64 x538.Step.Index, .int .i64 x538.from_, .int .i64 x538.to_, (.func (.func fid556) (List.toArray fst557) (List.toArray cap558))]) rfl rfl rfl rfl hS554 rfl rfl rfl rfl Try.sizeOf134 (Nat.le_of_ble_eq_true rfl) rfl rfl rfl ?_
      intro W560 hS561
      have hS562 : St ⟨w, [], φ⟩ φ527 [.blk b553 134 [.int .i64 x538.Step.Kind, .int .i64 x538.Step.Index, .int .i64 x538.from_, .int .i64 x538.to_, (.func (.func fid556) (List.toArray fst557) (List.toArray cap558))], .blk b7 123 (List.flatMap encI y416.l), .blk b2 123 (List.flatMap encI y417.l), .row A514 c515 35 2 (List.flatMap encT_target_Step l513)] W560 := hS561
      refine OKS.e ?_
      refine thenQ_n ?_
      refine CK.seq ?_
      refine CK.reg (ks := []) (.fl 0 (.fl 1 (.fl 2 (.fx 3 (.fx 4 (.fl 5 (.nil)) .stop) .stop)))) rfl ?_
      refine OKS.rm rfl rfl rfl rfl rfl f533 ?_
      refine OKS.r rfl rfl rfl rfl (fun _ => Runs.fa rfl rfl Try.runUnderlying134 rfl Try.sizeOf35) ?_
      refine OKS.m rfl rfl rfl rfl (hS562.ldBA (j := 0) rfl rfl rfl Try.isAgg35 Try.sizeOf35 (vs := [.int .i64 x538.Step.Kind, .int .i64 x538.Step.Index]) rfl rfl) rfl ?_
      refine OKS.buildSlice (pv := [(0, .agg #[.int .i64 x538.Step.Kind, .int .i64 x538.Step.Index])]) (zs := [.int .i64 0, .int .i64 0]) (cs := [.int .i64 x538.Step.Kind, .int .i64 x538.Step.Index]) rfl rfl rfl rfl rfl (mapcons2 rfl mapnil2) Try.runUnderlying24 Try.sizeOf35 Try.zeroValue35 rfl rfl rfl rfl rfl hS562 ?_
      intro W563 b564 hS565
      have hS567 : St ⟨w, [], φ⟩ φ527 [.row (some ⟨b564, 0, none⟩) 1 35 2 (List.flatMap encT_target_Step [x538.Step]), .blk b553 134 [.int .i64 x538.Step.Kind, .int .i64 x538.Step.Index, .int .i64 x538.from_, .int .i64 x538.to_, (.func (.func fid556) (List.toArray fst557) (List.toArray cap558))], .blk b7 123 (List.flatMap encI y416.l), .blk b2 123 (List.flatMap encI y417.l), .row A514 c515 35 2 (List.flatMap encT_target_Step l513)] W563 := hS565
      have q := bnd hm540
      obtain ⟨x568, h569, hm570⟩ := q
      refine OKS.append (j := 4) (enc := encT_target_Step) (xs := l513) (ys := [x538.Step]) (zs := x568) rfl rfl rfl rfl rfl Try.underlying24 info35 rfl rfl rfl rfl rfl rfl hS567 rfl rfl rfl (hS567.srcR (j := 0) rfl (by decide) (flatMap_len (f := encT_target_Step) (sz := 2) (fun _ => rfl) [x538.Step])) (fun _ => rfl) (fun _ => rfl) h569 rfl ?_
      intro A571 c572 W573 hS574
      have hS575 : St ⟨w, [], φ⟩ φ527 [.row (some ⟨b564, 0, none⟩) 1 35 2 (List.flatMap encT_target_Step [x538.Step]), .blk b553 134 [.int .i64 x538.Step.Kind, .int .i64 x538.Step.Index, .int .i64 x538.from_, .int .i64 x538.to_, (.func (.func fid556) (List.toArray fst557) (List.toArray cap558))], .blk b7 123 (List.flatMap encI y416.l), .blk b2 123 (List.flatMap encI y417.l), .row A571 c572 35 2 (List.flatMap encT_target_Step x568)] W573 := hS574
      refine OKS.ra rfl rfl rfl rfl rfl rfl ?_
      refine OKS.e ?_
      refine thenQ_n ?_
      refine CK.seq ?_
      refine CK.reg (ks := []) (.fl 0 (.fl 1 (.fl 2 (.nil)))) rfl ?_
      refine OKS.r rfl rfl rfl rfl (fun _ => Runs.fa rfl rfl Try.runUnderlying134 rfl Try.sizeOf3) ?_
      refine OKS.m rfl rfl rfl rfl (hS575.ldB (j := 1) rfl rfl rfl Try.isAgg3 (v := .int .i64 x538.from_) rfl) rfl ?_
      refine OKS.ra rfl rfl rfl rfl rfl rfl ?_
      refine OKS.e ?_
      refine thenQ_n ?_
      refine CK.seq ?_
      refine CK.reg (ks := []) (.fl 0 (.fl 1 (.fl 2 (.nil)))) rfl ?_
      refine OKS.rm rfl rfl rfl rfl rfl rfl ?_
      refine OKS.rm rfl rfl rfl rfl rfl f532 ?_
      refine OKS.r rfl rfl rfl rfl (fun _ => Runs.eql rfl rfl rfl) ?_
      refine OKS.e ?_
      refine thenQ_n ?_
      by_cases c576 : x538.from_ = y446
      ·have hm577 := hm570; rw [if_pos c576] at hm577; replace c576 := Hid.mk c576
       refine CK.condT (decT c576.out) ?_
       refine CK.exit ?_
       refine blockQ_m ?_
       have q := esc_spec hm577
       obtain ⟨v578, hm579, e580⟩ := q
       obtain rfl := hb524 v578 e580
       refine thenQ_e ?_
       refine blockQ_h ?_
       cases hm579
       exact thenQ_n ⟨rfl, ⟨φ527, A571, c572, rfl, le528, (hS575.pick [2, 3, 4] _ (by decide) rfl)⟩⟩
      ·have hm584 := hm570; rw [if_neg c576] at hm584; replace c576 := Hid.mk c576
       refine CK.condF (decF c576.out) ?_
       refine CK.skip ?_
       refine blockQ_n ?_
       obtain rfl := Option.some.inj hm584
       exact thenQ_n ⟨rfl, _, rfl, ⟨φ527, A571, c572, f530, f531, f532, rfl, rfl, le528, (hS575.pick [2, 3, 4] _ (by decide) rfl)⟩⟩
    ·rintro σ589 W590 ⟨φ591, A494, c495, f594, le592, hS593⟩
     refine CK.seq ?_
     refine CK.reg (ks := []) (.fl 0 (.fx 1 (.nil) .stop)) rfl ?_
     refine OKS.rm rfl rfl rfl rfl rfl f594 ?_
     have q := bnd hm498
     obtain ⟨x595, h596, hm597⟩ := q
     have hS598 : St ⟨w, [], φ⟩ φ591 [.row A494 c495 35 2 (List.flatMap encT_target_Step l493), .blk b7 123 (List.flatMap encI y416.l), .blk b2 123 (List.flatMap encI y417.l)] W590 := hS593.pick [2, 0, 1] _ (by decide) rfl
     refine OKS.callH 1 rfl rfl rfl rfl (Enters.mk rfl rfl Try.call113 (mapcons rfl mapnil) rfl) hS598 (fun hs => w_slices_Reverse_target_Step_target_Step l493 A494 c495 W590 φ591 hs h596) (.inl rfl) ?_
     rintro φ599 L600 v601 W602 le603 hS604 ⟨rfl, rfl, h605⟩
     have hS606 : St ⟨w, [], φ⟩ φ599 [.row A494 c495 35 2 (List.flatMap encT_target_Step x595), .blk b7 123 (List.flatMap encI y416.l), .blk b2 123 (List.flatMap encI y417.l)] W602 := hS604
     refine OKS.e ?_
     refine thenQ_n ?_
     refine CK.seq ?_
     refine CK.reg (ks := []) (.fl 0 (.fl 1 (.nil))) rfl ?_
     refine OKS.rm rfl rfl rfl rfl rfl (Eq.trans (b := (.slice A494 l493.length c495 : Value)) (c := (.slice A494 x595.length c495 : Value)) f594 (by rw [h605])) ?_
     refine OKS.ra rfl rfl rfl rfl rfl rfl ?_
     refine OKS.e ?_
     refine thenQ_n ?_
     refine CK.ret ?_
     refine scopeQ_r ?_
     have q := bnd hm597
     obtain ⟨x607, h608, hm609⟩ := q
     cases hm609
     exact ⟨rfl, _, (res1 rfl), φ599, _, (hS606.pick [0] _ (by decide) rfl), A494, c495, rfl, rfl, (fun h => absurd h (chkne_ne h608))⟩
end Go.Proofs.Ytaoaelhmiggepaa
