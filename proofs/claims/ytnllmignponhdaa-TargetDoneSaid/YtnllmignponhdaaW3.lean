/- Walks, printed by a program: each function does what its model says. -/
import Derived.Test.YtnllmignponhdaaEnc
import Derived.Test.YtnllmignponhdaaW0
import Derived.Test.YtnllmignponhdaaW1
import Derived.Test.YtnllmignponhdaaW2
namespace Go.Proofs.Ytnllmignponhdaa
open Go.KL
set_option maxHeartbeats 4000000 in
theorem w_target_Round (p0 : List Int) (pA0 : Option Addr) (pc0 : Nat) (p1 : List T_target_Sheet) (pA1 : Option Addr) (pc1 : Nat) (w : World) (φ : PHeap) (hS : St ⟨w, [], φ⟩ φ [] w) (ha0 : Sl φ 1 pA0 pc0 p0.length (List.flatMap encI p0)) (ha1 : Sl φ 4 pA1 pc1 p1.length (List.flatMap encT_target_Sheet p1)) {r : (List T_target_Step) × Int} (hm : m_target_Round p0 p1 = some r) : Gv Try.prog 63 [.slice pA0 p0.length pc0, .slice pA1 p1.length pc1] w (RetS w [] φ (fun φ_ L_ v => ∃ (A0 : Option Addr) (c0 : Nat), v = .tuple #[.slice A0 r.1.length c0, .int .i64 r.2] ∧ L_ = [.row A0 c0 114 2 (List.flatMap encT_target_Step r.1)])) := by
  unfold m_target_Round at hm
  refine Gv.of Try.func63 rfl Try.ntmps63 Try.results63 rfl ?_
  refine CK.seq ?_
  refine CK.reg (ks := []) (.fl 0 (.fl 1 (.nil))) rfl ?_
  refine OKS.r rfl rfl rfl rfl (fun _ => Runs.as rfl rfl) ?_
  refine OKS.r rfl rfl rfl rfl (fun _ => Runs.as rfl rfl) ?_
  refine OKS.e ?_
  refine thenQ_n ?_
  refine CK.seq ?_
  refine CK.seq ?_
  refine CK.reg (ks := []) (.fl 0 (.fl 1 (.fx 2 (.fl 3 (.nil)) .stop))) rfl ?_
  refine OKS.r rfl rfl rfl rfl (fun _ => Runs.mv rfl rfl) ?_
  refine OKS.r rfl rfl rfl rfl (fun _ => Runs.mv rfl rfl) ?_
  obtain ⟨x1, h2, hm3⟩ := bnd hm
  refine OKS.callH 0 rfl rfl rfl rfl (Enters.mk rfl rfl Try.call75 (mapcons rfl (mapcons rfl mapnil)) rfl) hS (fun hs => w_target_due p0 pA0 pc0 p1 pA1 pc1 w φ hs ha0 ha1 h2) (.inr rfl) ?_
  rintro φ4 L5 v6 W7 le8 hS9 ⟨rfl, rfl⟩
  have hS10 : St ⟨w, [], φ⟩ φ4 [] W7 := hS9
  refine OKS.r rfl rfl rfl rfl (fun _ => Runs.as rfl rfl) ?_
  refine OKS.e ?_
  refine thenQ_n ?_
  refine CK.seq ?_
  refine CK.reg (ks := []) (.fl 0 (.fl 1 (.nil))) rfl ?_
  refine OKS.r rfl rfl rfl rfl (fun _ => Runs.mv rfl rfl) ?_
  refine OKS.r rfl rfl rfl rfl (fun _ => Runs.neq rfl rfl rfl) ?_
  refine OKS.e ?_
  refine thenQ_n ?_
  by_cases c11 : x1 = 0
  · have hm12 := hm3; rw [if_pos c11] at hm12; replace c11 := Hid.mk c11
    refine CK.condF (decF (fun h => h c11.out)) ?_
    refine CK.skip ?_
    refine thenQ_n ?_
    refine CK.seq ?_
    refine CK.reg (ks := []) (.fl 0 (.fl 1 (.fl 2 (.nil)))) rfl ?_
    refine OKS.r rfl rfl rfl rfl (fun _ => Runs.mv rfl rfl) ?_
    refine OKS.r rfl rfl rfl rfl (fun _ => Runs.len rfl rfl Try.runUnderlying23) ?_
    refine OKS.r rfl rfl rfl rfl (fun _ => Runs.as rfl rfl) ?_
    refine OKS.e ?_
    refine thenQ_n ?_
    refine CK.seq ?_
    refine CK.seq ?_
    refine CK.reg (ks := []) (.fl 0 (.fl 1 (.fl 2 (.fx 3 (.fx 4 (.fl 5 (.nil)) .stop) .stop)))) rfl ?_
    refine OKS.r rfl rfl rfl rfl (fun _ => Runs.mv rfl rfl) ?_
    refine OKS.r rfl rfl rfl rfl (fun _ => Runs.mv rfl rfl) ?_
    refine OKS.r rfl rfl rfl rfl (fun _ => Runs.mv rfl rfl) ?_
    have h13 := ha1.le le8
    obtain ⟨x14, h15, hm16⟩ := bnd hm12
    refine OKS.callH 0 rfl rfl rfl rfl (Enters.mk rfl rfl Try.call77 (mapcons rfl (mapcons rfl (mapcons rfl mapnil))) rfl) hS10 (fun hs => w_target_links (↑p0.length : Int) p1 pA1 pc1 [] none 0 W7 φ4 hs h13 (by first | exact Sl.nil _ _ _ _ | exact SlR.nil) h15) (.inr rfl) ?_
    rintro φ17 L18 v19 W20 le21 hS22 ⟨A23, c24, c25, rfl, rfl, h27⟩
    have hS28 : St ⟨w, [], φ⟩ φ17 [.row A23 c24 189 5 c25] W20 := hS22
    obtain ⟨φ29, le30, hs31, hS32⟩ := hS28.freezeRR (R := rl189) (k := 0) rfl h27 rfl (by decide)
    have hS33 : St ⟨w, [], φ⟩ φ29 [] W20 := hS32
    obtain ⟨x34, h35, hm36⟩ := bnd hm16
    refine OKS.callH 0 rfl rfl rfl rfl (Enters.mk rfl rfl Try.call116 (mapcons rfl (mapcons rfl mapnil)) rfl) hS33 (fun hs => w_target_round (↑p0.length : Int) x14 A23 c24 W20 φ29 hs hs31 h35) (.inr rfl) ?_
    rintro φ37 L38 v39 W40 le41 hS42 ⟨A43, c44, rfl, rfl, h46⟩
    have hS47 : St ⟨w, [], φ⟩ φ37 [.row A43 c44 114 2 (List.flatMap encT_target_Step x34)] W40 := hS42
    refine OKS.r rfl rfl rfl rfl (fun _ => Runs.as rfl rfl) ?_
    refine OKS.e ?_
    refine thenQ_n ?_
    refine CK.seq ?_
    refine CK.reg (ks := []) (.fl 0 (.fl 1 (.nil))) rfl ?_
    refine OKS.r rfl rfl rfl rfl (fun _ => Runs.mv rfl rfl) ?_
    have h48 : A43.isNone = decide (x34 = []) := nil_iff (j := 0) hS47 rfl (fun _ => rfl) (by decide) h46
    refine OKS.r rfl rfl rfl rfl (fun _ => Runs.neNilR (b := decide (¬ (x34 = []))) rfl rfl rfl Try.runUnderlying110 (by simp [h48])) ?_
    refine OKS.e ?_
    refine thenQ_n ?_
    by_cases c49 : x34 = []
    · have hm50 := hm36; rw [if_pos c49] at hm50; replace c49 := Hid.mk c49
      refine CK.condF (decF (fun h => h c49.out)) ?_
      refine CK.skip ?_
      refine thenQ_n ?_
      refine CK.seq ?_
      refine CK.seq ?_
      refine CK.reg (ks := []) (.fl 0 (.fl 1 (.fl 2 (.fl 3 (.fx 4 (.fx 5 (.fl 6 (.nil)) .stop) .stop))))) rfl ?_
      refine OKS.r rfl rfl rfl rfl (fun _ => Runs.mv rfl rfl) ?_
      refine OKS.r rfl rfl rfl rfl (fun _ => Runs.mv rfl rfl) ?_
      refine OKS.r rfl rfl rfl rfl (fun _ => Runs.mv rfl rfl) ?_
      refine OKS.r rfl rfl rfl rfl (fun _ => Runs.mv rfl rfl) ?_
      have h51 := h13.le le21
      have h52 := h51.le le30
      have h53 := h52.le le41
      have h54 := ha0.le le8
      have h55 := h54.le le21
      have h56 := h55.le le30
      have h57 := h56.le le41
      obtain ⟨x58, h59, hm60⟩ := bnd hm50
      refine OKS.callH 0 rfl rfl rfl rfl (Enters.mk rfl rfl Try.call77 (mapcons rfl (mapcons rfl (mapcons rfl mapnil))) rfl) hS47 (fun hs => w_target_links (↑p0.length : Int) p1 pA1 pc1 p0 pA0 pc0 W40 φ37 hs h53 h57 h59) (.inr rfl) ?_
      rintro φ61 L62 v63 W64 le65 hS66 ⟨A67, c68, c69, rfl, rfl, h71⟩
      have hS72 : St ⟨w, [], φ⟩ φ61 [.row A67 c68 189 5 c69, .row A43 c44 114 2 (List.flatMap encT_target_Step x34)] W64 := hS66
      obtain ⟨φ73, le74, hs75, hS76⟩ := hS72.freezeRR (R := rl189) (k := 0) rfl h71 rfl (by decide)
      have hS77 : St ⟨w, [], φ⟩ φ73 [.row A43 c44 114 2 (List.flatMap encT_target_Step x34)] W64 := hS76
      obtain ⟨x78, h79, hm80⟩ := bnd hm60
      refine OKS.callH 0 rfl rfl rfl rfl (Enters.mk rfl rfl Try.call116 (mapcons rfl (mapcons rfl mapnil)) rfl) hS77 (fun hs => w_target_round (↑p0.length : Int) x58 A67 c68 W64 φ73 hs hs75 h79) (.inr rfl) ?_
      rintro φ81 L82 v83 W84 le85 hS86 ⟨A87, c88, rfl, rfl, h90⟩
      have hS91 : St ⟨w, [], φ⟩ φ81 [.row A87 c88 114 2 (List.flatMap encT_target_Step x78), .row A43 c44 114 2 (List.flatMap encT_target_Step x34)] W84 := hS86
      refine OKS.r rfl rfl rfl rfl (fun _ => Runs.as rfl rfl) ?_
      refine OKS.e ?_
      refine thenQ_n ?_
      refine CK.seq ?_
      refine CK.reg (ks := []) (.fl 0 (.fl 1 (.nil))) rfl ?_
      refine OKS.r rfl rfl rfl rfl (fun _ => Runs.mv rfl rfl) ?_
      have h92 : A87.isNone = decide (x78 = []) := nil_iff (j := 0) hS91 rfl (fun _ => rfl) (by decide) h90
      refine OKS.r rfl rfl rfl rfl (fun _ => Runs.neNilR (b := decide (¬ (x78 = []))) rfl rfl rfl Try.runUnderlying110 (by simp [h92])) ?_
      refine OKS.e ?_
      refine thenQ_n ?_
      by_cases c93 : x78 = []
      · have hm94 := hm80; rw [if_pos c93] at hm94; replace c93 := Hid.mk c93
        refine CK.condF (decF (fun h => h c93.out)) ?_
        refine CK.skip ?_
        refine thenQ_n ?_
        refine CK.seq ?_
        refine CK.reg (ks := []) (.fl 0 (.fl 1 (.nil))) rfl ?_
        refine OKS.r rfl rfl rfl rfl (fun _ => Runs.as rfl rfl) ?_
        refine OKS.r rfl rfl rfl rfl (fun _ => Runs.as rfl rfl) ?_
        refine OKS.e ?_
        refine thenQ_n ?_
        refine CK.ret ?_
        have hS95 := hS91.nilrow 114 2
        cases hm94
        exact ⟨rfl, _, (res2 rfl rfl), φ81, _, (hS95.pick [0] _ (by decide) rfl), none, 0, rfl, rfl⟩
      · have hm97 := hm80; rw [if_neg c93] at hm97; replace c93 := Hid.mk c93
        refine CK.condT (decT c93.out) ?_
        refine CK.seq ?_
        refine CK.reg (ks := []) (.fl 0 (.fl 1 (.fl 2 (.nil)))) rfl ?_
        refine OKS.r rfl rfl rfl rfl (fun _ => Runs.mv rfl rfl) ?_
        refine OKS.r rfl rfl rfl rfl (fun _ => Runs.as rfl rfl) ?_
        refine OKS.r rfl rfl rfl rfl (fun _ => Runs.as rfl rfl) ?_
        refine OKS.e ?_
        refine thenQ_n ?_
        refine CK.ret ?_
        refine thenQ_r ?_
        cases hm97
        exact ⟨rfl, _, (res2 rfl rfl), φ81, _, (hS91.pick [0] _ (by decide) rfl), A87, c88, rfl, rfl⟩
    · have hm98 := hm36; rw [if_neg c49] at hm98; replace c49 := Hid.mk c49
      refine CK.condT (decT c49.out) ?_
      refine CK.seq ?_
      refine CK.reg (ks := []) (.fl 0 (.fl 1 (.fl 2 (.nil)))) rfl ?_
      refine OKS.r rfl rfl rfl rfl (fun _ => Runs.mv rfl rfl) ?_
      refine OKS.r rfl rfl rfl rfl (fun _ => Runs.as rfl rfl) ?_
      refine OKS.r rfl rfl rfl rfl (fun _ => Runs.as rfl rfl) ?_
      refine OKS.e ?_
      refine thenQ_n ?_
      refine CK.ret ?_
      refine thenQ_r ?_
      cases hm98
      exact ⟨rfl, _, (res2 rfl rfl), φ37, _, hS47, A43, c44, rfl, rfl⟩
  · have hm99 := hm3; rw [if_neg c11] at hm99; replace c11 := Hid.mk c11
    refine CK.condT (decT c11.out) ?_
    refine CK.seq ?_
    refine CK.reg (ks := []) (.fl 0 (.fl 1 (.fl 2 (.nil)))) rfl ?_
    refine OKS.r rfl rfl rfl rfl (fun _ => Runs.mv rfl rfl) ?_
    refine OKS.r rfl rfl rfl rfl (fun _ => Runs.as rfl rfl) ?_
    refine OKS.r rfl rfl rfl rfl (fun _ => Runs.as rfl rfl) ?_
    refine OKS.e ?_
    refine thenQ_n ?_
    refine CK.ret ?_
    refine thenQ_r ?_
    have hS100 := hS10.nilrow 114 2
    cases hm99
    exact ⟨rfl, _, (res2 rfl rfl), φ4, _, hS100, none, 0, rfl, rfl⟩

set_option maxHeartbeats 4000000 in
theorem w_target_Due (p0 : List (List Int)) (pA0 : Option Addr) (pc0 : Nat) (p1 : List (List T_target_Sheet)) (pA1 : Option Addr) (pc1 : Nat) (w : World) (φ : PHeap) (hS : St ⟨w, [], φ⟩ φ [] w) (ha0 : SlR φ rl23 pA0 pc0 p0) (ha1 : SlR φ rl24 pA1 pc1 p1) {r : (List Int) × Int} (hm : m_target_Due p0 p1 = some r) : Gv Try.prog 69 [.slice pA0 p0.length pc0, .slice pA1 p1.length pc1] w (RetS w [] φ (fun φ_ L_ v => ∃ (A0 : Option Addr) (c0 : Nat), v = .tuple #[.slice A0 r.1.length c0, .int .i64 r.2] ∧ L_ = [.row A0 c0 3 1 (List.flatMap encI r.1)])) := by
  unfold m_target_Due at hm
  refine Gv.of Try.func69 rfl Try.ntmps69 Try.results69 rfl ?_
  refine CK.seq ?_
  refine CK.reg (ks := []) (.fl 0 (.fl 1 (.nil))) rfl ?_
  refine OKS.r rfl rfl rfl rfl (fun _ => Runs.as rfl rfl) ?_
  refine OKS.r rfl rfl rfl rfl (fun _ => Runs.as rfl rfl) ?_
  refine OKS.e ?_
  refine thenQ_n ?_
  refine CK.seq ?_
  refine CK.seq ?_
  refine CK.reg (ks := []) (.fl 0 (.fl 1 (.fl 2 (.fl 3 (.fl 4 (.fl 5 (.fl 6 (.fl 7 (.fl 8 (.fl 9 (.nil))))))))))) rfl ?_
  refine OKS.r rfl rfl rfl rfl (fun _ => Runs.mv rfl rfl) ?_
  refine OKS.r rfl rfl rfl rfl (fun _ => Runs.len rfl rfl Try.runUnderlying74) ?_
  refine OKS.r rfl rfl rfl rfl (fun _ => Runs.gtr rfl rfl rfl) ?_
  refine OKS.r rfl rfl rfl rfl (fun _ => Runs.mv rfl rfl) ?_
  by_cases c1 : 8 < (↑p0.length : Int)
  · have hm2 := hm; rw [if_pos c1] at hm2; replace c1 := Hid.mk c1
    refine OKS.p rfl rfl rfl (wantedN rfl rfl (decT c1.out) rfl) ?_
    refine OKS.p rfl rfl rfl (wantedN rfl rfl (decT c1.out) rfl) ?_
    refine OKS.p rfl rfl rfl (wantedN rfl rfl (decT c1.out) rfl) ?_
    refine OKS.p rfl rfl rfl (wantedN rfl rfl (decT c1.out) rfl) ?_
    refine OKS.p rfl rfl rfl (wantedN rfl rfl (decT c1.out) rfl) ?_
    refine OKS.r rfl rfl rfl rfl (fun _ => Runs.pickT rfl (decT c1.out) rfl) ?_
    refine OKS.e ?_
    refine thenQ_n ?_
    refine CK.condT rfl ?_
    refine CK.seq ?_
    refine CK.reg (ks := []) (.fl 0 (.fl 1 (.nil))) rfl ?_
    refine OKS.r rfl rfl rfl rfl (fun _ => Runs.as rfl rfl) ?_
    refine OKS.r rfl rfl rfl rfl (fun _ => Runs.as rfl rfl) ?_
    refine OKS.e ?_
    refine thenQ_n ?_
    refine CK.ret ?_
    refine thenQ_r ?_
    have hS3 := hS.nilrow 3 1
    cases hm2
    exact ⟨rfl, _, (res2 rfl rfl), φ, _, hS3, none, 0, rfl, rfl⟩
  · have hm5 := hm; rw [if_neg c1] at hm5; replace c1 := Hid.mk c1
    refine OKS.r rfl rfl rfl (wantedY rfl rfl (decF c1.out)) (fun _ => Runs.mv rfl rfl) ?_
    refine OKS.r rfl rfl rfl (wantedY rfl rfl (decF c1.out)) (fun _ => Runs.len rfl rfl Try.runUnderlying125) ?_
    refine OKS.r rfl rfl rfl (wantedY rfl rfl (decF c1.out)) (fun _ => Runs.mv rfl rfl) ?_
    refine OKS.r rfl rfl rfl (wantedY rfl rfl (decF c1.out)) (fun _ => Runs.len rfl rfl Try.runUnderlying74) ?_
    refine OKS.r rfl rfl rfl (wantedY rfl rfl (decF c1.out)) (fun _ => Runs.neq rfl rfl rfl) ?_
    refine OKS.r rfl rfl rfl rfl (fun _ => Runs.pickF rfl (decF c1.out) rfl) ?_
    refine OKS.e ?_
    refine thenQ_n ?_
    by_cases c6 : (↑p1.length : Int) = (↑p0.length : Int)
    · have hm7 := hm5; rw [if_pos c6] at hm7; replace c6 := Hid.mk c6
      refine CK.condF (decF (fun h => h c6.out)) ?_
      refine CK.skip ?_
      refine thenQ_n ?_
      refine CK.seq ?_
      refine CK.reg (ks := []) (.fl 0 (.nil)) rfl ?_
      refine OKS.r rfl rfl rfl rfl (fun _ => Runs.as rfl rfl) ?_
      refine OKS.e ?_
      refine thenQ_n ?_
      refine CK.seq ?_
      refine CK.seq ?_
      refine CK.reg (ks := []) (.fl 0 (.fl 1 (.fl 2 (.nil)))) rfl ?_
      refine OKS.r rfl rfl rfl rfl (fun _ => Runs.mv rfl rfl) ?_
      refine OKS.r rfl rfl rfl rfl (fun _ => Runs.len rfl rfl Try.runUnderlying74) ?_
      refine OKS.r rfl rfl rfl rfl (fun _ => Runs.mv rfl rfl) ?_
      refine OKS.e ?_
      refine thenQ_n ?_
      refine CK.block ?_
      obtain ⟨r26, hX27⟩ := jn_some hm7
      obtain ⟨hle28, hf29⟩ := forR_le hX27
      replace hle28 := Hid.mk hle28
      refine CK.forN (fun k25 l21 σ_ w_ => ∃ (φ_ : PHeap) (A22 : Option Addr) (c23 : Nat), σ_ 22 = .int .i64 (↑k25 : Int) ∧ σ_ 0 = .slice pA0 p0.length pc0 ∧ σ_ 1 = .slice pA1 p1.length pc1 ∧ σ_ 6 = .slice A22 l21.length c23 ∧ σ_ 21 = .int .i64 (↑p0.length : Int) ∧ PHeap.Le φ φ_ ∧ St ⟨w, [], φ⟩ φ_ [.row A22 c23 3 1 (List.flatMap encI l21)] w_) hf29 ?_ ?_ ?_
      · have hS30 := hS.nilrow 3 1
        exact ⟨φ, none, 0, rfl, rfl, rfl, rfl, rfl, (PHeap.Le.refl _), hS30⟩
      · rintro k25 l21 xx34 σ32 W33 hk37 ⟨φ39, A22, c23, fi38, f42, f43, f44, f45, le40, hS41⟩ hx35 hb36
        have c46 : Hid ((↑k25 : Int) < (↑p0.length : Int)) := Hid.mk (lp_lt0 hk37)
        replace hk37 := Hid.mk hk37
        have hi47 : Hid (w64 ((↑k25 : Int) + 1) = (↑(k25 + 1) : Int)) := Hid.mk (by have h1 := hle28.out; have h2 := c46.out; rw [w64_in] <;> omega)
        refine CK.seq ?_
        refine CK.reg (ks := []) (.fl 0 (.nil)) rfl ?_
        refine OKS.r rfl rfl rfl rfl (fun _ => Runs.lss rfl fi38 f45) ?_
        refine OKS.e ?_
        refine thenQ_n ?_
        refine CK.seq ?_
        refine CK.condT (decT c46.out) ?_
        refine CK.skip ?_
        refine thenQ_n ?_
        refine CK.seq ?_
        refine CK.block ?_
        refine CK.seq ?_
        refine CK.reg (ks := []) (.fl 0 (.fl 1 (.nil))) rfl ?_
        refine OKS.r rfl rfl rfl rfl (fun _ => Runs.mv rfl fi38) ?_
        refine OKS.r rfl rfl rfl rfl (fun _ => Runs.as rfl rfl) ?_
        refine OKS.e ?_
        refine thenQ_n ?_
        refine CK.seq ?_
        refine CK.anyOrd Try.mixed [3, 3, 3, 1, 3, 3, 3, 1, 2, 3, 3, 3, 3, 3] (.fl 0 (.fl 1 (.fl 2 (.fl 3 (.fl 4 (.fl 5 (.fl 6 (.fl 7 (.fx 8 (.fl 9 (.fl 10 (.fl 11 (.fl 12 (.fl 13 (.nil)))))) .stop))))))))) (by kernel_rfl) ?_
        have hS48 := hS41.drew
        generalize hw_W49 : ({ W33 with drawn := W33.drawn + 1 } : World) = W49 at hS48 ⊢
        refine OKS.r rfl rfl rfl rfl (fun _ => Runs.mv rfl f42) ?_
        refine OKS.r rfl rfl rfl rfl (fun _ => Runs.mv rfl rfl) ?_
        obtain ⟨x50, h51, hm52⟩ := bnd hx35
        have h53 := ha0.le le40
        obtain ⟨b54, off55, vs58, hA56, hC57, hr59⟩ := h53.el (idx_get h51)
        obtain ⟨pA60, pc61, rfl, h62⟩ := hr59
        replace hC57 : Cl φ39 b54 (off55 + k25 * 1) [.slice pA60 x50.length pc61] := hC57
        refine OKS.r rfl rfl rfl rfl (fun _ => Runs.iaN rfl rfl hA56 rfl Try.runUnderlying74 Try.sizeOf23 (idx_lt h51)) ?_
        refine OKS.m rfl rfl rfl rfl (hS48.ldC (f := 0) hC57 (v := .slice pA60 x50.length pc61) rfl rfl Try.isAgg23 rfl) rfl ?_
        refine OKS.r rfl rfl rfl rfl (fun _ => Runs.mv rfl f43) ?_
        refine OKS.r rfl rfl rfl rfl (fun _ => Runs.mv rfl rfl) ?_
        obtain ⟨x63, h64, hm65⟩ := bnd hm52
        have h66 := ha1.le le40
        obtain ⟨b67, off68, vs71, hA69, hC70, hr72⟩ := h66.el (idx_get h64)
        obtain ⟨pA73, pc74, rfl, h75⟩ := hr72
        replace hC70 : Cl φ39 b67 (off68 + k25 * 1) [.slice pA73 x63.length pc74] := hC70
        refine OKS.r rfl rfl rfl rfl (fun _ => Runs.iaN rfl rfl hA69 rfl Try.runUnderlying125 Try.sizeOf24 (idx_lt h64)) ?_
        refine OKS.m rfl rfl rfl rfl (hS48.ldC (f := 0) hC70 (v := .slice pA73 x63.length pc74) rfl rfl Try.isAgg24 rfl) rfl ?_
        obtain ⟨⟨x76, x77⟩, h78, hm79⟩ := bnd hm65
        try dsimp only at hm79
        refine OKS.callH 0 rfl rfl rfl rfl (Enters.mk rfl rfl Try.call23 (mapcons rfl (mapcons rfl mapnil)) rfl) hS48 (fun hs => w_target_Few x50 pA60 pc61 x63 pA73 pc74 W49 φ39 hs h62 h75 h78) (.inr rfl) ?_
        rintro φ80 L81 v82 W83 le84 hS85 ⟨rfl, rfl⟩
        have hS86 : St ⟨w, [], φ⟩ φ80 [.row A22 c23 3 1 (List.flatMap encI l21)] W83 := hS85
        refine OKS.r rfl rfl rfl rfl (fun _ => Runs.mv rfl rfl) ?_
        refine OKS.r rfl rfl rfl rfl (fun _ => Runs.ext rfl rfl (v := .bool x76) rfl) ?_
        refine OKS.r rfl rfl rfl rfl (fun _ => Runs.ext rfl rfl (v := .int .i64 x77) rfl) ?_
        refine OKS.r rfl rfl rfl rfl (fun _ => Runs.as rfl rfl) ?_
        refine OKS.r rfl rfl rfl rfl (fun _ => Runs.as rfl rfl) ?_
        refine OKS.e ?_
        refine thenQ_n ?_
        refine CK.seq ?_
        refine CK.seq ?_
        refine CK.reg (ks := []) (.fl 0 (.fl 1 (.nil))) rfl ?_
        refine OKS.r rfl rfl rfl rfl (fun _ => Runs.mv rfl rfl) ?_
        refine OKS.r rfl rfl rfl rfl (fun _ => Runs.neq rfl rfl rfl) ?_
        refine OKS.e ?_
        refine thenQ_n ?_
        by_cases c87 : x77 = 0
        · have hm88 := hm79; rw [if_pos c87] at hm88; replace c87 := Hid.mk c87
          refine CK.condF (decF (fun h => h c87.out)) ?_
          refine CK.skip ?_
          refine thenQ_n ?_
          refine CK.seq ?_
          refine CK.reg (ks := []) (.fl 0 (.nil)) rfl ?_
          refine OKS.r rfl rfl rfl rfl (fun _ => Runs.mv rfl rfl) ?_
          refine OKS.e ?_
          refine thenQ_n ?_
          by_cases c89 : x76 = true
          · have hm90 := hm88; rw [if_pos c89] at hm90; replace c89 := Hid.mk c89
            refine CK.condT (congrArg Value.bool c89.out) ?_
            refine CK.reg (ks := []) (.fl 0 (.fl 1 (.fx 2 (.fx 3 (.fl 4 (.nil)) .stop) .stop))) rfl ?_
            refine OKS.r rfl rfl rfl rfl (fun _ => Runs.mv rfl f44) ?_
            refine OKS.r rfl rfl rfl rfl (fun _ => Runs.mv rfl rfl) ?_
            refine OKS.buildSlice (pv := [(0, .int .i64 (↑k25 : Int))]) (zs := [.int .i64 0]) (cs := [.int .i64 (↑k25 : Int)]) rfl rfl rfl rfl rfl (mapcons2 rfl mapnil2) Try.runUnderlying23 Try.sizeOf3 Try.zeroValue3 rfl rfl rfl rfl rfl hS86 ?_
            intro W91 b92 hS93
            have hS95 : St ⟨w, [], φ⟩ φ80 [.row (some ⟨b92, 0, none⟩) 1 3 1 (List.flatMap encI [(↑k25 : Int)]), .row A22 c23 3 1 (List.flatMap encI l21)] W91 := hS93
            obtain ⟨x96, h97, hm98⟩ := bnd hm90
            refine OKS.append (j := 1) (enc := encI) (xs := l21) (ys := [(↑k25 : Int)]) (zs := x96) rfl rfl rfl rfl rfl Try.underlying23 info3 rfl rfl rfl rfl rfl rfl hS95 rfl rfl rfl (hS95.srcR (j := 0) rfl (by decide) (flatMap_len (f := encI) (sz := 1) (fun _ => rfl) [(↑k25 : Int)])) (fun _ => rfl) (fun _ => rfl) h97 rfl ?_
            intro A99 c100 W101 hS102
            have hS103 : St ⟨w, [], φ⟩ φ80 [.row (some ⟨b92, 0, none⟩) 1 3 1 (List.flatMap encI [(↑k25 : Int)]), .row A99 c100 3 1 (List.flatMap encI x96)] W101 := hS102
            refine OKS.r rfl rfl rfl rfl (fun _ => Runs.as rfl rfl) ?_
            refine OKS.e ?_
            refine blockQ_n ?_
            refine thenQ_n ?_
            refine CK.reg (ks := []) (.fl 0 (.fl 1 (.nil))) rfl ?_
            refine OKS.r rfl rfl rfl rfl (fun _ => Runs.to (Runs.addw rfl fi38 rfl) (congrArg (Value.int .i64) hi47.out)) ?_
            refine OKS.r rfl rfl rfl rfl (fun _ => Runs.mv rfl rfl) ?_
            refine OKS.e ?_
            obtain rfl := Option.some.inj hm98
            exact thenQ_n ⟨rfl, _, rfl, ⟨φ80, A99, c100, rfl, f42, f43, rfl, f45, (le40.trans le84), (hS103.pick [1] _ (by decide) rfl)⟩⟩
          · have hm107 := hm88; rw [if_neg c89] at hm107; replace c89 := Hid.mk c89
            refine CK.condF (congrArg Value.bool (Bool.eq_false_iff.2 c89.out)) ?_
            refine CK.skip ?_
            refine blockQ_n ?_
            refine thenQ_n ?_
            refine CK.reg (ks := []) (.fl 0 (.fl 1 (.nil))) rfl ?_
            refine OKS.r rfl rfl rfl rfl (fun _ => Runs.to (Runs.addw rfl fi38 rfl) (congrArg (Value.int .i64) hi47.out)) ?_
            refine OKS.r rfl rfl rfl rfl (fun _ => Runs.mv rfl rfl) ?_
            refine OKS.e ?_
            obtain rfl := Option.some.inj hm107
            exact thenQ_n ⟨rfl, _, rfl, ⟨φ80, A22, c23, rfl, f42, f43, f44, f45, (le40.trans le84), hS86⟩⟩
        · have hm111 := hm79; rw [if_neg c87] at hm111; replace c87 := Hid.mk c87
          refine CK.condT (decT c87.out) ?_
          refine CK.seq ?_
          refine CK.reg (ks := []) (.fl 0 (.fl 1 (.fl 2 (.nil)))) rfl ?_
          refine OKS.r rfl rfl rfl rfl (fun _ => Runs.mv rfl rfl) ?_
          refine OKS.r rfl rfl rfl rfl (fun _ => Runs.as rfl rfl) ?_
          refine OKS.r rfl rfl rfl rfl (fun _ => Runs.as rfl rfl) ?_
          refine OKS.e ?_
          refine thenQ_n ?_
          refine CK.ret ?_
          refine thenQ_r ?_
          refine blockQ_r ?_
          refine thenQ_r ?_
          obtain ⟨v112, hm113, e114⟩ := esc_spec hm111
          obtain rfl := jn_inr hm7 hX27 (hb36 v112 e114)
          refine thenQ_r ?_
          refine blockQ_r ?_
          refine thenQ_r ?_
          have hS115 := hS86.nilrow 3 1
          cases hm113
          exact ⟨rfl, _, (res2 rfl rfl), φ80, _, (hS115.pick [0] _ (by decide) rfl), none, 0, rfl, rfl⟩
      · rintro y121 σ117 W118 ⟨φ124, A122, c123, fi120, f127, f128, f129, f130, le125, hS126⟩ hb119
        have hm131 := jn_inl hm7 hX27 hb119
        have c132 : Hid (¬ ((↑(((↑p0.length : Int) : Int) - 0).toNat : Int) < (↑p0.length : Int))) := Hid.mk (lp_end0)
        refine CK.seq ?_
        refine CK.reg (ks := []) (.fl 0 (.nil)) rfl ?_
        refine OKS.r rfl rfl rfl rfl (fun _ => Runs.lss rfl fi120 f130) ?_
        refine OKS.e ?_
        refine thenQ_n ?_
        refine CK.seq ?_
        refine CK.condF (decF c132.out) ?_
        refine CK.exit ?_
        refine thenQ_e ?_
        refine thenQ_e ?_
        refine blockQ_h ?_
        refine thenQ_n ?_
        refine CK.seq ?_
        refine CK.reg (ks := []) (.fl 0 (.fl 1 (.fl 2 (.nil)))) rfl ?_
        refine OKS.r rfl rfl rfl rfl (fun _ => Runs.mv rfl f129) ?_
        refine OKS.r rfl rfl rfl rfl (fun _ => Runs.as rfl rfl) ?_
        refine OKS.r rfl rfl rfl rfl (fun _ => Runs.as rfl rfl) ?_
        refine OKS.e ?_
        refine thenQ_n ?_
        refine CK.ret ?_
        cases hm131
        exact ⟨rfl, _, (res2 rfl rfl), φ124, _, hS126, A122, c123, rfl, rfl⟩
    · have hm133 := hm5; rw [if_neg c6] at hm133; replace c6 := Hid.mk c6
      refine CK.condT (decT c6.out) ?_
      refine CK.seq ?_
      refine CK.reg (ks := []) (.fl 0 (.fl 1 (.nil))) rfl ?_
      refine OKS.r rfl rfl rfl rfl (fun _ => Runs.as rfl rfl) ?_
      refine OKS.r rfl rfl rfl rfl (fun _ => Runs.as rfl rfl) ?_
      refine OKS.e ?_
      refine thenQ_n ?_
      refine CK.ret ?_
      refine thenQ_r ?_
      have hS134 := hS.nilrow 3 1
      cases hm133
      exact ⟨rfl, _, (res2 rfl rfl), φ, _, hS134, none, 0, rfl, rfl⟩

set_option maxHeartbeats 4000000 in
theorem w_target_Between (p0 : Int) (p1 : List T_target_Sheet) (pA1 : Option Addr) (pc1 : Nat) (p2 : Int) (p3 : Int) (w : World) (φ : PHeap) (hS : St ⟨w, [], φ⟩ φ [] w) (ha0 : Sl φ 4 pA1 pc1 p1.length (List.flatMap encT_target_Sheet p1)) {r : T_api_Span × Int} (hm : m_target_Between p0 p1 p2 p3 = some r) : Gv Try.prog 28 [.int .i64 p0, .slice pA1 p1.length pc1, .int .i64 p2, .int .i64 p3] w (RetS w [] φ (fun φ_ L_ v => v = .tuple #[.agg #[.int .i64 r.1.Lo, .int .i64 r.1.Hi], .int .i64 r.2] ∧ L_ = [])) := by
  unfold m_target_Between at hm
  refine Gv.of Try.func28 rfl Try.ntmps28 Try.results28 rfl ?_
  refine CK.seq ?_
  refine CK.reg (ks := []) (.fx 0 (.fl 1 (.nil)) .stop) rfl ?_
  refine OKS.alloc (cs := [.int .i64 0, .int .i64 0]) rfl rfl rfl rfl rfl Try.zeroValue31 rfl hS ?_
  intro W1 b2 hS3
  refine OKS.r rfl rfl rfl rfl (fun _ => Runs.as rfl rfl) ?_
  refine OKS.e ?_
  refine thenQ_n ?_
  refine CK.seq ?_
  refine CK.reg (ks := []) (.fl 0 (.fl 1 (.fx 2 (.fl 3 (.fl 4 (.fl 5 (.fx 6 (.fx 7 (.fl 8 (.nil)) .stop) .stop)))) .stop))) rfl ?_
  refine OKS.r rfl rfl rfl rfl (fun _ => Runs.mv rfl rfl) ?_
  refine OKS.r rfl rfl rfl rfl (fun _ => Runs.mv rfl rfl) ?_
  obtain ⟨⟨x5, x6⟩, h7, hm8⟩ := bnd hm
  try dsimp only at hm8
  refine OKS.callH 0 rfl rfl rfl rfl (Enters.mk rfl rfl Try.call74 (mapcons rfl (mapcons rfl mapnil)) rfl) hS3 (fun hs => w_target_counted p0 p1 pA1 pc1 W1 φ hs ha0 h7) (.inr rfl) ?_
  rintro φ9 L10 v11 W12 le13 hS14 ⟨rfl, rfl⟩
  have hS15 : St ⟨w, [], φ⟩ φ9 [.blk b2 31 [.int .i64 0, .int .i64 0]] W12 := hS14
  refine OKS.r rfl rfl rfl rfl (fun _ => Runs.mv rfl rfl) ?_
  refine OKS.r rfl rfl rfl rfl (fun _ => Runs.ext rfl rfl (v := .agg (List.flatMap encI x5.l).toArray) rfl) ?_
  refine OKS.r rfl rfl rfl rfl (fun _ => Runs.ext rfl rfl (v := .int .i64 x6) rfl) ?_
  refine OKS.alloc (cs := List.flatMap encI (Arr.fill 81 0).l) rfl rfl rfl rfl rfl Try.zeroValue136 rfl hS15 ?_
  intro W16 b17 hS18
  have hS20 : St ⟨w, [], φ⟩ φ9 [.blk b17 136 (List.flatMap encI (Arr.fill 81 0).l), .blk b2 31 [.int .i64 0, .int .i64 0]] W16 := hS18
  refine OKS.st (j := 0) (vs := List.flatMap encI x5.l) rfl rfl rfl rfl hS20 rfl rfl rfl rfl (fun w => by rw [whole_len (f := encI) (sz := 1) (N := 81) x5 (fun _ => rfl) rfl]; exact Try.sizeOf136 w) (by rw [whole_len (f := encI) (sz := 1) (N := 81) x5 (fun _ => rfl) rfl, whole_len (f := encI) (sz := 1) (N := 81) (Arr.fill 81 0) (fun _ => rfl) rfl]; exact Nat.le_of_ble_eq_true rfl) (all_one_flat (fun _ => rfl) _) (setN_all _ _ (by rw [whole_len (f := encI) (sz := 1) (N := 81) x5 (fun _ => rfl) rfl, whole_len (f := encI) (sz := 1) (N := 81) (Arr.fill 81 0) (fun _ => rfl) rfl])) rfl ?_
  intro W21 hS22
  have hS23 : St ⟨w, [], φ⟩ φ9 [.blk b17 136 (List.flatMap encI x5.l), .blk b2 31 [.int .i64 0, .int .i64 0]] W21 := hS22
  refine OKS.r rfl rfl rfl rfl (fun _ => Runs.as rfl rfl) ?_
  refine OKS.e ?_
  refine thenQ_n ?_
  refine CK.seq ?_
  obtain ⟨b24, hx26, hm27⟩ := bnd hm8
  refine CK.cut (fun σ_ w_ => ∃ (φ_ : PHeap), σ_ 0 = .int .i64 p0 ∧ σ_ 2 = .int .i64 p2 ∧ σ_ 3 = .int .i64 p3 ∧ σ_ 8 = .pointer (some ⟨b2, 0, none⟩) ∧ σ_ 10 = .pointer (some ⟨b17, 0, none⟩) ∧ σ_ 11 = .int .i64 x6 ∧ σ_ 23 = .bool b24 ∧ PHeap.Le φ9 φ_ ∧ St ⟨w, [], φ⟩ φ_ [.blk b17 136 (List.flatMap encI x5.l), .blk b2 31 [.int .i64 0, .int .i64 0]] w_) ?_ ?_
  · refine CK.reg (ks := []) (.fl 0 (.fl 1 (.fl 2 (.fl 3 (.fl 4 (.fl 5 (.nil))))))) rfl ?_
    refine OKS.r rfl rfl rfl rfl (fun _ => Runs.mv rfl rfl) ?_
    refine OKS.r rfl rfl rfl rfl (fun _ => Runs.eql rfl rfl rfl) ?_
    refine OKS.r rfl rfl rfl rfl (fun _ => Runs.mv rfl rfl) ?_
    by_cases c28 : x6 = 0
    · have hm29 := hx26; rw [if_pos c28] at hm29; replace c28 := Hid.mk c28
      refine OKS.p rfl rfl rfl (wantedN rfl rfl (decT c28.out) rfl) ?_
      refine OKS.p rfl rfl rfl (wantedN rfl rfl (decT c28.out) rfl) ?_
      refine OKS.r rfl rfl rfl rfl (fun _ => Runs.pickT rfl (decT c28.out) rfl) ?_
      refine OKS.e ?_
      cases hm29
      exact thenQ_n ⟨rfl, ⟨φ9, rfl, rfl, rfl, rfl, rfl, rfl, rfl, (PHeap.Le.refl _), hS23⟩⟩
    · have hm31 := hx26; rw [if_neg c28] at hm31; replace c28 := Hid.mk c28
      refine OKS.r rfl rfl rfl (wantedY rfl rfl (decF c28.out)) (fun _ => Runs.mv rfl rfl) ?_
      refine OKS.r rfl rfl rfl (wantedY rfl rfl (decF c28.out)) (fun _ => Runs.eql rfl rfl rfl) ?_
      refine OKS.r rfl rfl rfl rfl (fun _ => Runs.pickF rfl (decF c28.out) rfl) ?_
      refine OKS.e ?_
      cases hm31
      exact thenQ_n ⟨rfl, ⟨φ9, rfl, rfl, rfl, rfl, rfl, rfl, rfl, (PHeap.Le.refl _), hS23⟩⟩
  · rintro σ33 W34 ⟨φ35, f38, f39, f40, f41, f42, f43, f44, le36, hS37⟩
    by_cases c45 : b24 = true
    · have hm46 := hm27; rw [if_pos c45] at hm46; replace c45 := Hid.mk c45
      refine CK.condT (f44.trans (congrArg Value.bool c45.out)) ?_
      obtain ⟨b47, hx49, hm50⟩ := bnd hm46
      refine CK.cut (fun σ_ w_ => ∃ (φ_ : PHeap), σ_ 2 = .int .i64 p2 ∧ σ_ 3 = .int .i64 p3 ∧ σ_ 8 = .pointer (some ⟨b2, 0, none⟩) ∧ σ_ 10 = .pointer (some ⟨b17, 0, none⟩) ∧ σ_ 11 = .int .i64 x6 ∧ σ_ 32 = .bool b47 ∧ PHeap.Le φ35 φ_ ∧ St ⟨w, [], φ⟩ φ_ [.blk b17 136 (List.flatMap encI x5.l), .blk b2 31 [.int .i64 0, .int .i64 0]] w_) ?_ ?_
      · refine CK.reg (ks := []) (.fl 0 (.fl 1 (.fx 2 (.fl 3 (.fl 4 (.fl 5 (.fl 6 (.fl 7 (.fl 8 (.nil))))))) .stop))) rfl ?_
        refine OKS.r rfl rfl rfl rfl (fun _ => Runs.mv rfl f39) ?_
        refine OKS.r rfl rfl rfl rfl (fun _ => Runs.mv rfl f40) ?_
        obtain ⟨x51, h52, hm53⟩ := bnd hx49
        refine OKS.callH 0 rfl rfl rfl rfl (Enters.mk rfl rfl Try.call82 (mapcons rfl (mapcons rfl (mapcons rfl mapnil))) rfl) hS37 (fun hs => w_target_within p2 0 p3 W34 φ35 hs h52) (.inr rfl) ?_
        rintro φ54 L55 v56 W57 le58 hS59 ⟨rfl, rfl⟩
        have hS60 : St ⟨w, [], φ⟩ φ54 [.blk b17 136 (List.flatMap encI x5.l), .blk b2 31 [.int .i64 0, .int .i64 0]] W57 := hS59
        refine OKS.r rfl rfl rfl rfl (fun _ => Runs.notT rfl rfl) ?_
        refine OKS.r rfl rfl rfl rfl (fun _ => Runs.mv rfl rfl) ?_
        by_cases c61 : x51 = true
        · have hm62 := hm53; rw [if_pos c61] at hm62; replace c61 := Hid.mk c61
          refine OKS.r rfl rfl rfl (wantedY rfl rfl (congrArg (fun b => Value.bool (!b)) c61.out)) (fun _ => Runs.mv rfl f40) ?_
          refine OKS.r rfl rfl rfl (wantedY rfl rfl (congrArg (fun b => Value.bool (!b)) c61.out)) (fun _ => Runs.mv rfl f38) ?_
          refine OKS.r rfl rfl rfl (wantedY rfl rfl (congrArg (fun b => Value.bool (!b)) c61.out)) (fun _ => Runs.geq rfl rfl rfl) ?_
          refine OKS.r rfl rfl rfl rfl (fun _ => Runs.pickF rfl (congrArg (fun b => Value.bool (!b)) c61.out) rfl) ?_
          refine OKS.e ?_
          cases hm62
          exact thenQ_n ⟨rfl, ⟨φ54, f39, f40, f41, f42, f43, rfl, le58, hS60⟩⟩
        · have hm64 := hm53; rw [if_neg c61] at hm64; replace c61 := Hid.mk c61
          refine OKS.p rfl rfl rfl (wantedN rfl rfl (congrArg (fun b => Value.bool (!b)) (Bool.eq_false_iff.2 c61.out)) rfl) ?_
          refine OKS.p rfl rfl rfl (wantedN rfl rfl (congrArg (fun b => Value.bool (!b)) (Bool.eq_false_iff.2 c61.out)) rfl) ?_
          refine OKS.p rfl rfl rfl (wantedN rfl rfl (congrArg (fun b => Value.bool (!b)) (Bool.eq_false_iff.2 c61.out)) rfl) ?_
          refine OKS.r rfl rfl rfl rfl (fun _ => Runs.pickT rfl (congrArg (fun b => Value.bool (!b)) (Bool.eq_false_iff.2 c61.out)) rfl) ?_
          refine OKS.e ?_
          cases hm64
          exact thenQ_n ⟨rfl, ⟨φ54, f39, f40, f41, f42, f43, rfl, le58, hS60⟩⟩
      · rintro σ66 W67 ⟨φ68, f71, f72, f73, f74, f75, f76, le69, hS70⟩
        by_cases c77 : b47 = true
        · have hm78 := hm50; rw [if_pos c77] at hm78; replace c77 := Hid.mk c77
          refine CK.condT (f76.trans (congrArg Value.bool c77.out)) ?_
          refine CK.reg (ks := []) (.fl 0 (.nil)) rfl ?_
          refine OKS.r rfl rfl rfl rfl (fun _ => Runs.as rfl rfl) ?_
          refine OKS.e ?_
          refine thenQ_n ?_
          refine CK.seq ?_
          refine CK.seq ?_
          refine CK.reg (ks := []) (.fl 0 (.fl 1 (.nil))) rfl ?_
          refine OKS.r rfl rfl rfl rfl (fun _ => Runs.mv rfl rfl) ?_
          refine OKS.r rfl rfl rfl rfl (fun _ => Runs.neq rfl rfl rfl) ?_
          refine OKS.e ?_
          refine thenQ_n ?_
          refine CK.condT (decT (by decide)) ?_
          refine CK.seq ?_
          refine CK.reg (ks := []) (.fl 0 (.fl 1 (.fx 2 (.fl 3 (.nil)) .stop))) rfl ?_
          refine OKS.r rfl rfl rfl rfl (fun _ => Runs.build (pv := []) (z := [.int .i64 0, .int .i64 0]) (cs := [.int .i64 0, .int .i64 0]) rfl mapnil2 Try.zeroValue31 places31 rfl rfl) ?_
          refine OKS.r rfl rfl rfl rfl (fun _ => Runs.mv rfl rfl) ?_
          refine OKS.st (j := 1) (vs := [.int .i64 0, .int .i64 0]) rfl rfl rfl rfl hS70 rfl f73 rfl rfl Try.sizeOf31 (Nat.le_of_ble_eq_true rfl) rfl rfl rfl ?_
          intro W79 hS80
          have hS81 : St ⟨w, [], φ⟩ φ68 [.blk b17 136 (List.flatMap encI x5.l), .blk b2 31 [.int .i64 0, .int .i64 0]] W79 := hS80
          refine OKS.r rfl rfl rfl rfl (fun _ => Runs.as rfl rfl) ?_
          refine OKS.e ?_
          refine thenQ_n ?_
          refine CK.ret ?_
          refine thenQ_r ?_
          cases hm78
          exact ⟨rfl, _, (resLn (rs := [.cell 8 31, .tmp 9]) (vs := [.agg #[.int .i64 0, .int .i64 0], .int .i64 1]) ⟨⟨_, f73, (ldvarA Try.isAgg31 Try.sizeOf31 (hS81.blkAt (k := 1) rfl) (vs := [.int .i64 0, .int .i64 0]) rfl rfl)⟩, ⟨rfl, trivial⟩⟩ rfl), φ68, _, (hS81.pick [] _ (by decide) rfl), rfl, rfl⟩
        · have hm82 := hm50; rw [if_neg c77] at hm82; replace c77 := Hid.mk c77
          refine CK.condF (f76.trans (congrArg Value.bool (Bool.eq_false_iff.2 c77.out))) ?_
          refine CK.skip ?_
          refine thenQ_n ?_
          refine CK.seq ?_
          refine CK.seq ?_
          refine CK.reg (ks := []) (.fl 0 (.fl 1 (.nil))) rfl ?_
          refine OKS.r rfl rfl rfl rfl (fun _ => Runs.mv rfl f75) ?_
          refine OKS.r rfl rfl rfl rfl (fun _ => Runs.neq rfl rfl rfl) ?_
          refine OKS.e ?_
          refine thenQ_n ?_
          by_cases c83 : x6 = 0
          · have hm84 := hm82; rw [if_pos c83] at hm84; replace c83 := Hid.mk c83
            refine CK.condF (decF (fun h => h c83.out)) ?_
            refine CK.skip ?_
            refine thenQ_n ?_
            refine CK.seq ?_
            refine CK.anyOrd Try.mixed [3, 3, 3, 3, 3, 1, 3, 3, 3, 3, 3, 3, 1, 3, 0, 3] (.fl 0 (.fl 1 (.fl 2 (.fl 3 (.fl 4 (.fl 5 (.fl 6 (.fl 7 (.fl 8 (.fl 9 (.fl 10 (.fl 11 (.fl 12 (.fl 13 (.fx 14 (.fl 15 (.nil)) .stop))))))))))))))) (by kernel_rfl) ?_
            have hS85 := hS70.drew
            generalize hw_W86 : ({ W67 with drawn := W67.drawn + 1 } : World) = W86 at hS85 ⊢
            refine OKS.r rfl rfl rfl rfl (fun _ => Runs.mv rfl f72) ?_
            refine OKS.r rfl rfl rfl rfl (fun _ => Runs.addw rfl rfl rfl) ?_
            refine OKS.r rfl rfl rfl rfl (fun _ => Runs.mv rfl f71) ?_
            obtain ⟨_, h87, hm88⟩ := bnd hm84
            refine OKS.r rfl rfl rfl rfl (fun _ => Runs.iaA rfl f74 rfl Try.runUnderlying136 Try.sizeOf135 (chk_lo h87) (chk_hi h87)) ?_
            obtain ⟨_, h89, hm90⟩ := bnd hm88
            refine OKS.r rfl rfl rfl rfl (fun _ => Runs.iaA rfl rfl rfl Try.runUnderlying135 Try.sizeOf3 (chk_lo h89) (chk_hi h89)) ?_
            have hg91 := Arr.at_ x5 (k := ((w64 (p3 + 1)).toNat * 9 + p2.toNat)) (by have hz0 := chk_lt h87; have hz1 := chk_lt h89; omega)
            refine OKS.m rfl rfl rfl rfl (hS85.ldB (j := 0) rfl rfl rfl Try.isAgg3 (flatMap_cell (sz := 1) (fun _ => rfl) _ _ 0 _ hg91 (by omega) rfl)) rfl ?_
            refine OKS.r rfl rfl rfl rfl (fun _ => Runs.negw rfl rfl) ?_
            refine OKS.r rfl rfl rfl rfl (fun _ => Runs.mv rfl f71) ?_
            refine OKS.r rfl rfl rfl rfl (fun _ => Runs.mv rfl f72) ?_
            refine OKS.r rfl rfl rfl rfl (fun _ => Runs.addw rfl rfl rfl) ?_
            refine OKS.r rfl rfl rfl rfl (fun _ => Runs.iaA rfl f74 rfl Try.runUnderlying136 Try.sizeOf135 (chk_lo h89) (chk_hi h89)) ?_
            refine OKS.r rfl rfl rfl rfl (fun _ => Runs.iaA rfl rfl rfl Try.runUnderlying135 Try.sizeOf3 (chk_lo h87) (chk_hi h87)) ?_
            have hg92 := Arr.at_ x5 (k := (p2.toNat * 9 + (w64 (p3 + 1)).toNat)) (by have hz0 := chk_lt h89; have hz1 := chk_lt h87; omega)
            refine OKS.m rfl rfl rfl rfl (hS85.ldB (j := 0) rfl rfl rfl Try.isAgg3 (flatMap_cell (sz := 1) (fun _ => rfl) _ _ 0 _ hg92 (by omega) rfl)) rfl ?_
            refine OKS.r rfl rfl rfl rfl (fun _ => Runs.build (pv := [(0, .int .i64 (w64 (-(x5.get ((w64 (p3 + 1)).toNat * 9 + p2.toNat))))), (1, .int .i64 (x5.get (p2.toNat * 9 + (w64 (p3 + 1)).toNat)))]) (z := [.int .i64 0, .int .i64 0]) (cs := [.int .i64 (w64 (-(x5.get ((w64 (p3 + 1)).toNat * 9 + p2.toNat)))), .int .i64 (x5.get (p2.toNat * 9 + (w64 (p3 + 1)).toNat))]) rfl (mapcons2 rfl (mapcons2 rfl mapnil2)) Try.zeroValue31 places31 rfl rfl) ?_
            refine OKS.st (j := 1) (vs := [.int .i64 (w64 (-(x5.get ((w64 (p3 + 1)).toNat * 9 + p2.toNat)))), .int .i64 (x5.get (p2.toNat * 9 + (w64 (p3 + 1)).toNat))]) rfl rfl rfl rfl hS85 rfl f73 rfl rfl Try.sizeOf31 (Nat.le_of_ble_eq_true rfl) rfl rfl rfl ?_
            intro W93 hS94
            have hS95 : St ⟨w, [], φ⟩ φ68 [.blk b17 136 (List.flatMap encI x5.l), .blk b2 31 [.int .i64 (w64 (-(x5.get ((w64 (p3 + 1)).toNat * 9 + p2.toNat)))), .int .i64 (x5.get (p2.toNat * 9 + (w64 (p3 + 1)).toNat))]] W93 := hS94
            refine OKS.r rfl rfl rfl rfl (fun _ => Runs.as rfl rfl) ?_
            refine OKS.e ?_
            refine thenQ_n ?_
            refine CK.ret ?_
            cases hm90
            exact ⟨rfl, _, (resLn (rs := [.cell 8 31, .tmp 9]) (vs := [.agg #[.int .i64 (w64 (-(x5.get ((w64 (p3 + 1)).toNat * 9 + p2.toNat)))), .int .i64 (x5.get (p2.toNat * 9 + (w64 (p3 + 1)).toNat))], .int .i64 0]) ⟨⟨_, f73, (ldvarA Try.isAgg31 Try.sizeOf31 (hS95.blkAt (k := 1) rfl) (vs := [.int .i64 (w64 (-(x5.get ((w64 (p3 + 1)).toNat * 9 + p2.toNat)))), .int .i64 (x5.get (p2.toNat * 9 + (w64 (p3 + 1)).toNat))]) rfl rfl)⟩, ⟨rfl, trivial⟩⟩ rfl), φ68, _, (hS95.pick [] _ (by decide) rfl), rfl, rfl⟩
          · have hm96 := hm82; rw [if_neg c83] at hm96; replace c83 := Hid.mk c83
            refine CK.condT (decT c83.out) ?_
            refine CK.seq ?_
            refine CK.reg (ks := []) (.fl 0 (.fl 1 (.fx 2 (.fl 3 (.nil)) .stop))) rfl ?_
            refine OKS.r rfl rfl rfl rfl (fun _ => Runs.build (pv := []) (z := [.int .i64 0, .int .i64 0]) (cs := [.int .i64 0, .int .i64 0]) rfl mapnil2 Try.zeroValue31 places31 rfl rfl) ?_
            refine OKS.r rfl rfl rfl rfl (fun _ => Runs.mv rfl f75) ?_
            refine OKS.st (j := 1) (vs := [.int .i64 0, .int .i64 0]) rfl rfl rfl rfl hS70 rfl f73 rfl rfl Try.sizeOf31 (Nat.le_of_ble_eq_true rfl) rfl rfl rfl ?_
            intro W97 hS98
            have hS99 : St ⟨w, [], φ⟩ φ68 [.blk b17 136 (List.flatMap encI x5.l), .blk b2 31 [.int .i64 0, .int .i64 0]] W97 := hS98
            refine OKS.r rfl rfl rfl rfl (fun _ => Runs.as rfl rfl) ?_
            refine OKS.e ?_
            refine thenQ_n ?_
            refine CK.ret ?_
            refine thenQ_r ?_
            cases hm96
            exact ⟨rfl, _, (resLn (rs := [.cell 8 31, .tmp 9]) (vs := [.agg #[.int .i64 0, .int .i64 0], .int .i64 x6]) ⟨⟨_, f73, (ldvarA Try.isAgg31 Try.sizeOf31 (hS99.blkAt (k := 1) rfl) (vs := [.int .i64 0, .int .i64 0]) rfl rfl)⟩, ⟨rfl, trivial⟩⟩ rfl), φ68, _, (hS99.pick [] _ (by decide) rfl), rfl, rfl⟩
    · have hm100 := hm27; rw [if_neg c45] at hm100; replace c45 := Hid.mk c45
      refine CK.condF (f44.trans (congrArg Value.bool (Bool.eq_false_iff.2 c45.out))) ?_
      refine CK.skip ?_
      refine thenQ_n ?_
      refine CK.seq ?_
      refine CK.seq ?_
      refine CK.reg (ks := []) (.fl 0 (.fl 1 (.nil))) rfl ?_
      refine OKS.r rfl rfl rfl rfl (fun _ => Runs.mv rfl f43) ?_
      refine OKS.r rfl rfl rfl rfl (fun _ => Runs.neq rfl rfl rfl) ?_
      refine OKS.e ?_
      refine thenQ_n ?_
      by_cases c101 : x6 = 0
      · have hm102 := hm100; rw [if_pos c101] at hm102; replace c101 := Hid.mk c101
        refine CK.condF (decF (fun h => h c101.out)) ?_
        refine CK.skip ?_
        refine thenQ_n ?_
        refine CK.seq ?_
        refine CK.anyOrd Try.mixed [3, 3, 3, 3, 3, 1, 3, 3, 3, 3, 3, 3, 1, 3, 0, 3] (.fl 0 (.fl 1 (.fl 2 (.fl 3 (.fl 4 (.fl 5 (.fl 6 (.fl 7 (.fl 8 (.fl 9 (.fl 10 (.fl 11 (.fl 12 (.fl 13 (.fx 14 (.fl 15 (.nil)) .stop))))))))))))))) (by kernel_rfl) ?_
        have hS103 := hS37.drew
        generalize hw_W104 : ({ W34 with drawn := W34.drawn + 1 } : World) = W104 at hS103 ⊢
        refine OKS.r rfl rfl rfl rfl (fun _ => Runs.mv rfl f40) ?_
        refine OKS.r rfl rfl rfl rfl (fun _ => Runs.addw rfl rfl rfl) ?_
        refine OKS.r rfl rfl rfl rfl (fun _ => Runs.mv rfl f39) ?_
        obtain ⟨_, h105, hm106⟩ := bnd hm102
        refine OKS.r rfl rfl rfl rfl (fun _ => Runs.iaA rfl f42 rfl Try.runUnderlying136 Try.sizeOf135 (chk_lo h105) (chk_hi h105)) ?_
        obtain ⟨_, h107, hm108⟩ := bnd hm106
        refine OKS.r rfl rfl rfl rfl (fun _ => Runs.iaA rfl rfl rfl Try.runUnderlying135 Try.sizeOf3 (chk_lo h107) (chk_hi h107)) ?_
        have hg109 := Arr.at_ x5 (k := ((w64 (p3 + 1)).toNat * 9 + p2.toNat)) (by have hz0 := chk_lt h105; have hz1 := chk_lt h107; omega)
        refine OKS.m rfl rfl rfl rfl (hS103.ldB (j := 0) rfl rfl rfl Try.isAgg3 (flatMap_cell (sz := 1) (fun _ => rfl) _ _ 0 _ hg109 (by omega) rfl)) rfl ?_
        refine OKS.r rfl rfl rfl rfl (fun _ => Runs.negw rfl rfl) ?_
        refine OKS.r rfl rfl rfl rfl (fun _ => Runs.mv rfl f39) ?_
        refine OKS.r rfl rfl rfl rfl (fun _ => Runs.mv rfl f40) ?_
        refine OKS.r rfl rfl rfl rfl (fun _ => Runs.addw rfl rfl rfl) ?_
        refine OKS.r rfl rfl rfl rfl (fun _ => Runs.iaA rfl f42 rfl Try.runUnderlying136 Try.sizeOf135 (chk_lo h107) (chk_hi h107)) ?_
        refine OKS.r rfl rfl rfl rfl (fun _ => Runs.iaA rfl rfl rfl Try.runUnderlying135 Try.sizeOf3 (chk_lo h105) (chk_hi h105)) ?_
        have hg110 := Arr.at_ x5 (k := (p2.toNat * 9 + (w64 (p3 + 1)).toNat)) (by have hz0 := chk_lt h107; have hz1 := chk_lt h105; omega)
        refine OKS.m rfl rfl rfl rfl (hS103.ldB (j := 0) rfl rfl rfl Try.isAgg3 (flatMap_cell (sz := 1) (fun _ => rfl) _ _ 0 _ hg110 (by omega) rfl)) rfl ?_
        refine OKS.r rfl rfl rfl rfl (fun _ => Runs.build (pv := [(0, .int .i64 (w64 (-(x5.get ((w64 (p3 + 1)).toNat * 9 + p2.toNat))))), (1, .int .i64 (x5.get (p2.toNat * 9 + (w64 (p3 + 1)).toNat)))]) (z := [.int .i64 0, .int .i64 0]) (cs := [.int .i64 (w64 (-(x5.get ((w64 (p3 + 1)).toNat * 9 + p2.toNat)))), .int .i64 (x5.get (p2.toNat * 9 + (w64 (p3 + 1)).toNat))]) rfl (mapcons2 rfl (mapcons2 rfl mapnil2)) Try.zeroValue31 places31 rfl rfl) ?_
        refine OKS.st (j := 1) (vs := [.int .i64 (w64 (-(x5.get ((w64 (p3 + 1)).toNat * 9 + p2.toNat)))), .int .i64 (x5.get (p2.toNat * 9 + (w64 (p3 + 1)).toNat))]) rfl rfl rfl rfl hS103 rfl f41 rfl rfl Try.sizeOf31 (Nat.le_of_ble_eq_true rfl) rfl rfl rfl ?_
        intro W111 hS112
        have hS113 : St ⟨w, [], φ⟩ φ35 [.blk b17 136 (List.flatMap encI x5.l), .blk b2 31 [.int .i64 (w64 (-(x5.get ((w64 (p3 + 1)).toNat * 9 + p2.toNat)))), .int .i64 (x5.get (p2.toNat * 9 + (w64 (p3 + 1)).toNat))]] W111 := hS112
        refine OKS.r rfl rfl rfl rfl (fun _ => Runs.as rfl rfl) ?_
        refine OKS.e ?_
        refine thenQ_n ?_
        refine CK.ret ?_
        cases hm108
        exact ⟨rfl, _, (resLn (rs := [.cell 8 31, .tmp 9]) (vs := [.agg #[.int .i64 (w64 (-(x5.get ((w64 (p3 + 1)).toNat * 9 + p2.toNat)))), .int .i64 (x5.get (p2.toNat * 9 + (w64 (p3 + 1)).toNat))], .int .i64 0]) ⟨⟨_, f41, (ldvarA Try.isAgg31 Try.sizeOf31 (hS113.blkAt (k := 1) rfl) (vs := [.int .i64 (w64 (-(x5.get ((w64 (p3 + 1)).toNat * 9 + p2.toNat)))), .int .i64 (x5.get (p2.toNat * 9 + (w64 (p3 + 1)).toNat))]) rfl rfl)⟩, ⟨rfl, trivial⟩⟩ rfl), φ35, _, (hS113.pick [] _ (by decide) rfl), rfl, rfl⟩
      · have hm114 := hm100; rw [if_neg c101] at hm114; replace c101 := Hid.mk c101
        refine CK.condT (decT c101.out) ?_
        refine CK.seq ?_
        refine CK.reg (ks := []) (.fl 0 (.fl 1 (.fx 2 (.fl 3 (.nil)) .stop))) rfl ?_
        refine OKS.r rfl rfl rfl rfl (fun _ => Runs.build (pv := []) (z := [.int .i64 0, .int .i64 0]) (cs := [.int .i64 0, .int .i64 0]) rfl mapnil2 Try.zeroValue31 places31 rfl rfl) ?_
        refine OKS.r rfl rfl rfl rfl (fun _ => Runs.mv rfl f43) ?_
        refine OKS.st (j := 1) (vs := [.int .i64 0, .int .i64 0]) rfl rfl rfl rfl hS37 rfl f41 rfl rfl Try.sizeOf31 (Nat.le_of_ble_eq_true rfl) rfl rfl rfl ?_
        intro W115 hS116
        have hS117 : St ⟨w, [], φ⟩ φ35 [.blk b17 136 (List.flatMap encI x5.l), .blk b2 31 [.int .i64 0, .int .i64 0]] W115 := hS116
        refine OKS.r rfl rfl rfl rfl (fun _ => Runs.as rfl rfl) ?_
        refine OKS.e ?_
        refine thenQ_n ?_
        refine CK.ret ?_
        refine thenQ_r ?_
        cases hm114
        exact ⟨rfl, _, (resLn (rs := [.cell 8 31, .tmp 9]) (vs := [.agg #[.int .i64 0, .int .i64 0], .int .i64 x6]) ⟨⟨_, f41, (ldvarA Try.isAgg31 Try.sizeOf31 (hS117.blkAt (k := 1) rfl) (vs := [.int .i64 0, .int .i64 0]) rfl rfl)⟩, ⟨rfl, trivial⟩⟩ rfl), φ35, _, (hS117.pick [] _ (by decide) rfl), rfl, rfl⟩

set_option maxHeartbeats 4000000 in
theorem w_klisterkit_Clone_target_Sheet (p0 : List T_target_Sheet) (pA0 : Option Addr) (pc0 : Nat) (w : World) (φ : PHeap) (hS : St ⟨w, [], φ⟩ φ [] w) (ha0 : Sl φ 4 pA0 pc0 p0.length (List.flatMap encT_target_Sheet p0)) {r : (List T_target_Sheet)} (hm : m_klisterkit_Clone_target_Sheet p0 = some r) : Gv Try.prog 16 [.slice pA0 p0.length pc0] w (RetS w [] φ (fun φ_ L_ v => ∃ (A0 : Option Addr) (c0 : Nat), v = .slice A0 r.length c0 ∧ L_ = [.row A0 c0 33 4 (List.flatMap encT_target_Sheet r)])) := by
  unfold m_klisterkit_Clone_target_Sheet at hm
  refine Gv.of Try.func16 rfl Try.ntmps16 Try.results16 rfl ?_
  refine CK.seq ?_
  refine CK.reg (ks := []) (.fl 0 (.nil)) rfl ?_
  refine OKS.r rfl rfl rfl rfl (fun _ => Runs.as rfl rfl) ?_
  refine OKS.e ?_
  refine thenQ_n ?_
  refine CK.seq ?_
  refine CK.reg (ks := []) (.fl 0 (.fx 1 (.fl 2 (.nil)) .stop)) rfl ?_
  refine OKS.r rfl rfl rfl rfl (fun _ => Runs.mv rfl rfl) ?_
  have hS1 := hS.nilrow 33 4
  have hS3 : St ⟨w, [], φ⟩ φ [.row none 0 33 4 (List.flatMap encT_target_Sheet ([] : List T_target_Sheet))] w := hS1
  obtain ⟨x4, h5, hm6⟩ := bnd hm
  refine OKS.append (j := 0) (enc := encT_target_Sheet) (xs := ([] : List T_target_Sheet)) (ys := p0) (zs := x4) rfl rfl rfl rfl rfl Try.underlying24 info33 rfl rfl rfl rfl rfl rfl hS3 rfl rfl rfl (hS3.srcS ha0) (fun _ => rfl) (fun _ => rfl) h5 rfl ?_
  intro A7 c8 W9 hS10
  have hS11 : St ⟨w, [], φ⟩ φ [.row A7 c8 33 4 (List.flatMap encT_target_Sheet x4)] W9 := hS10
  refine OKS.r rfl rfl rfl rfl (fun _ => Runs.as rfl rfl) ?_
  refine OKS.e ?_
  refine thenQ_n ?_
  refine CK.ret ?_
  cases hm6
  exact ⟨rfl, _, (res1 rfl), φ, _, hS11, A7, c8, rfl, rfl⟩

theorem w_klisterlaw03_awake (w : World) (φ : PHeap) (hS : St ⟨w, [], φ⟩ φ [] w) {r : Bool} (hm : m_klisterlaw03_awake = some r) : Gv Try.prog 24 [] w (RetS w [] φ (fun φ_ L_ v => v = .bool r ∧ L_ = [])) := by
  cases hm
  refine (xr24 w).mono ?_
  rintro v w' ⟨rfl, k⟩
  exact ⟨φ, [], hS.grow k, rfl, rfl⟩

set_option maxHeartbeats 4000000 in
theorem w_klisterlaw03_TargetDone (p0 : List Int) (pA0 : Option Addr) (pc0 : Nat) (p1 : List Int) (pA1 : Option Addr) (pc1 : Nat) (p2 : Int) (p3 : Int) (w : World) (φ : PHeap) (hS : St ⟨w, [], φ⟩ φ [] w) (ha0 : Sl φ 1 pA0 pc0 p0.length (List.flatMap encB8 p0)) (ha1 : Sl φ 1 pA1 pc1 p1.length (List.flatMap encB8 p1)) {r : Bool} (hm : m_klisterlaw03_TargetDone p0 p1 p2 p3 = some r) : Gv Try.prog 13 [.slice pA0 p0.length pc0, .slice pA1 p1.length pc1, .int .u8 p2, .int .u8 p3] w (RetS w [] φ (fun φ_ L_ v => v = .bool r ∧ L_ = [])) := by
  unfold m_klisterlaw03_TargetDone at hm
  refine Gv.of Try.func13 rfl Try.ntmps13 Try.results13 rfl ?_
  refine CK.seq ?_
  refine CK.reg (ks := []) (.fl 0 (.nil)) rfl ?_
  refine OKS.r rfl rfl rfl rfl (fun _ => Runs.as rfl rfl) ?_
  refine OKS.e ?_
  refine thenQ_n ?_
  refine CK.seq ?_
  refine CK.reg (ks := []) (.fl 0 (.fx 1 (.fx 2 (.fl 3 (.fl 4 (.fl 5 (.fl 6 (.fl 7 (.nil)))))) .stop) .stop)) rfl ?_
  refine OKS.r rfl rfl rfl rfl (fun _ => Runs.mv rfl rfl) ?_
  obtain ⟨x1, h2, hm3⟩ := bnd hm
  refine OKS.callH 0 rfl rfl rfl rfl (Enters.mk rfl rfl Try.call15 (mapcons rfl mapnil) rfl) hS (fun hs => w_klisterkit_Of p0 pA0 pc0 w φ hs ha0 h2) (.inr rfl) ?_
  rintro φ4 L5 v6 W7 le8 hS9 ⟨b10, A11, c12, rfl, rfl, h14⟩
  have hS15 : St ⟨w, [], φ⟩ φ4 [.blk b10 134 [.slice A11 x1.bytes.length c12, .int .i64 x1.next, .int .u32 x1.state]] W7 := hS9
  obtain ⟨⟨x16, x17, x18⟩, h19, hm20⟩ := bnd hm3
  try dsimp only at hm20
  refine OKS.callH 1 rfl rfl rfl rfl (Enters.mk rfl rfl Try.call14 (mapcons rfl (mapcons rfl (mapcons rfl mapnil))) rfl) hS15 (fun hs => w_klisterlaw03_Counted x1 b10 A11 c12 8 3 W7 φ4 hs h14 h19) (.inl rfl) ?_
  rintro φ21 L22 v23 W24 le25 hS26 ⟨A27, c28, A29, c30, A31, c32, rfl, rfl, h34, h35⟩
  have hS36 : St ⟨w, [], φ⟩ φ21 [.row A29 c30 33 4 (List.flatMap encT_target_Sheet x17), .blk b10 134 [.slice A31 x18.bytes.length c32, .int .i64 x18.next, .int .u32 x18.state]] W24 := hS26
  refine OKS.r rfl rfl rfl rfl (fun _ => Runs.mv rfl rfl) ?_
  refine OKS.r rfl rfl rfl rfl (fun _ => Runs.ext rfl rfl (v := .slice A27 x16.length c28) rfl) ?_
  refine OKS.r rfl rfl rfl rfl (fun _ => Runs.ext rfl rfl (v := .slice A29 x17.length c30) rfl) ?_
  refine OKS.r rfl rfl rfl rfl (fun _ => Runs.as rfl rfl) ?_
  refine OKS.r rfl rfl rfl rfl (fun _ => Runs.as rfl rfl) ?_
  refine OKS.e ?_
  refine thenQ_n ?_
  refine CK.seq ?_
  refine CK.reg (ks := []) (.fl 0 (.fl 1 (.fl 2 (.nil)))) rfl ?_
  refine OKS.r rfl rfl rfl rfl (fun _ => Runs.mv rfl rfl) ?_
  refine OKS.r rfl rfl rfl rfl (fun _ => Runs.len rfl rfl Try.runUnderlying23) ?_
  refine OKS.r rfl rfl rfl rfl (fun _ => Runs.as rfl rfl) ?_
  refine OKS.e ?_
  refine thenQ_n ?_
  refine CK.seq ?_
  refine CK.reg (ks := []) (.fl 0 (.fx 1 (.fl 2 (.nil)) .stop)) rfl ?_
  refine OKS.r rfl rfl rfl rfl (fun _ => Runs.mv rfl rfl) ?_
  have h37 := ha1.le le8
  have h38 := h37.le le25
  obtain ⟨x39, h40, hm41⟩ := bnd hm20
  refine OKS.callH 0 rfl rfl rfl rfl (Enters.mk rfl rfl Try.call15 (mapcons rfl mapnil) rfl) hS36 (fun hs => w_klisterkit_Of p1 pA1 pc1 W24 φ21 hs h38 h40) (.inr rfl) ?_
  rintro φ42 L43 v44 W45 le46 hS47 ⟨b48, A49, c50, rfl, rfl, h52⟩
  have hS53 : St ⟨w, [], φ⟩ φ42 [.blk b48 134 [.slice A49 x39.bytes.length c50, .int .i64 x39.next, .int .u32 x39.state], .row A29 c30 33 4 (List.flatMap encT_target_Sheet x17), .blk b10 134 [.slice A31 x18.bytes.length c32, .int .i64 x18.next, .int .u32 x18.state]] W45 := hS47
  refine OKS.r rfl rfl rfl rfl (fun _ => Runs.as rfl rfl) ?_
  refine OKS.e ?_
  refine thenQ_n ?_
  refine CK.seq ?_
  refine CK.reg (ks := []) (.fl 0 (.fl 1 (.fx 2 (.fl 3 (.fl 4 (.fl 5 (.fl 6 (.fl 7 (.nil)))))) .stop))) rfl ?_
  refine OKS.r rfl rfl rfl rfl (fun _ => Runs.mv rfl rfl) ?_
  refine OKS.r rfl rfl rfl rfl (fun _ => Runs.mv rfl rfl) ?_
  obtain ⟨φ54, le55, hs56, hS57⟩ := hS53.freezeR (k := 1) (n := x17.length) rfl (flatMap_len (f := encT_target_Sheet) (sz := 4) (fun _ => rfl) x17) (by decide)
  have hS58 : St ⟨w, [], φ⟩ φ54 [.blk b48 134 [.slice A49 x39.bytes.length c50, .int .i64 x39.next, .int .u32 x39.state], .blk b10 134 [.slice A31 x18.bytes.length c32, .int .i64 x18.next, .int .u32 x18.state]] W45 := hS57
  obtain ⟨⟨x59, x60⟩, h61, hm62⟩ := bnd hm41
  try dsimp only at hm62
  refine OKS.callH 0 rfl rfl rfl rfl (Enters.mk rfl rfl Try.call21 (mapcons rfl (mapcons rfl mapnil)) rfl) hS58 (fun hs => w_target_Skied (↑x16.length : Int) x17 A29 c30 W45 φ54 hs hs56 h61) (.inr rfl) ?_
  rintro φ63 L64 v65 W66 le67 hS68 ⟨A69, c70, rfl, rfl⟩
  have hS72 : St ⟨w, [], φ⟩ φ63 [.row A69 c70 31 2 (List.flatMap encT_api_Span x59), .blk b48 134 [.slice A49 x39.bytes.length c50, .int .i64 x39.next, .int .u32 x39.state], .blk b10 134 [.slice A31 x18.bytes.length c32, .int .i64 x18.next, .int .u32 x18.state]] W66 := hS68
  refine OKS.r rfl rfl rfl rfl (fun _ => Runs.mv rfl rfl) ?_
  refine OKS.r rfl rfl rfl rfl (fun _ => Runs.ext rfl rfl (v := .slice A69 x59.length c70) rfl) ?_
  refine OKS.r rfl rfl rfl rfl (fun _ => Runs.ext rfl rfl (v := .int .i64 x60) rfl) ?_
  refine OKS.r rfl rfl rfl rfl (fun _ => Runs.as rfl rfl) ?_
  refine OKS.r rfl rfl rfl rfl (fun _ => Runs.as rfl rfl) ?_
  refine OKS.e ?_
  refine thenQ_n ?_
  refine CK.seq ?_
  refine CK.seq ?_
  refine CK.reg (ks := []) (.fl 0 (.fl 1 (.fl 2 (.fl 3 (.fl 4 (.fl 5 (.fl 6 (.fl 7 (.nil))))))))) rfl ?_
  refine OKS.r rfl rfl rfl rfl (fun _ => Runs.mv rfl rfl) ?_
  refine OKS.r rfl rfl rfl rfl (fun _ => Runs.neq rfl rfl rfl) ?_
  refine OKS.r rfl rfl rfl rfl (fun _ => Runs.mv rfl rfl) ?_
  by_cases c73 : x60 = 0
  · have hm74 := hm62; rw [if_pos c73] at hm74; replace c73 := Hid.mk c73
    refine OKS.r rfl rfl rfl (wantedY rfl rfl (decF (fun h => h c73.out))) (fun _ => Runs.mv rfl rfl) ?_
    refine OKS.r rfl rfl rfl (wantedY rfl rfl (decF (fun h => h c73.out))) (fun _ => Runs.len rfl rfl Try.runUnderlying38) ?_
    refine OKS.r rfl rfl rfl (wantedY rfl rfl (decF (fun h => h c73.out))) (fun _ => Runs.mv rfl rfl) ?_
    refine OKS.r rfl rfl rfl (wantedY rfl rfl (decF (fun h => h c73.out))) (fun _ => Runs.neq rfl rfl rfl) ?_
    refine OKS.r rfl rfl rfl rfl (fun _ => Runs.pickF rfl (decF (fun h => h c73.out)) rfl) ?_
    refine OKS.e ?_
    refine thenQ_n ?_
    by_cases c75 : (↑x59.length : Int) = (↑x16.length : Int)
    · have hm76 := hm74; rw [if_pos c75] at hm76; replace c75 := Hid.mk c75
      refine CK.condF (decF (fun h => h c75.out)) ?_
      refine CK.skip ?_
      refine thenQ_n ?_
      refine CK.seq ?_
      refine CK.reg (ks := []) (.fl 0 (.nil)) rfl ?_
      refine OKS.r rfl rfl rfl rfl (fun _ => Runs.as rfl rfl) ?_
      refine OKS.e ?_
      refine thenQ_n ?_
      refine CK.seq ?_
      refine CK.seq ?_
      refine CK.reg (ks := []) (.fl 0 (.fl 1 (.fl 2 (.nil)))) rfl ?_
      refine OKS.r rfl rfl rfl rfl (fun _ => Runs.mv rfl rfl) ?_
      refine OKS.r rfl rfl rfl rfl (fun _ => Runs.len rfl rfl Try.runUnderlying23) ?_
      refine OKS.r rfl rfl rfl rfl (fun _ => Runs.mv rfl rfl) ?_
      refine OKS.e ?_
      refine thenQ_n ?_
      refine CK.block ?_
      obtain ⟨r115, hX116⟩ := jn_some hm76
      obtain ⟨hle117, hf118⟩ := forR_le hX116
      replace hle117 := Hid.mk hle117
      refine CK.forN (fun k114 (l105, x108, x109, l110) σ_ w_ => ∃ (φ_ : PHeap) (A106 : Option Addr) (c107 : Nat) (A111 : Option Addr) (c112 : Nat), σ_ 59 = .int .i64 (↑k114 : Int) ∧ σ_ 2 = .int .u8 p2 ∧ σ_ 3 = .int .u8 p3 ∧ σ_ 9 = .slice A27 x16.length c28 ∧ σ_ 10 = .slice A29 x17.length c30 ∧ σ_ 11 = .int .i64 (↑x16.length : Int) ∧ σ_ 12 = .pointer (some ⟨b48, 0, none⟩) ∧ σ_ 13 = .slice A69 x59.length c70 ∧ σ_ 15 = .slice A111 l110.length c112 ∧ σ_ 57 = .slice A27 x16.length c28 ∧ σ_ 58 = .int .i64 (↑x16.length : Int) ∧ PHeap.Le φ63 φ_ ∧ St ⟨w, [], φ⟩ φ_ [.blk b48 134 [.slice A106 l105.length c107, .int .i64 x108, .int .u32 x109], .blk b10 134 [.slice A31 x18.bytes.length c32, .int .i64 x18.next, .int .u32 x18.state], .row A69 c70 31 2 (List.flatMap encT_api_Span x59), .row A111 c112 3 1 (List.flatMap encI l110)] w_ ∧ Sl φ_ 1 A106 c107 l105.length (List.flatMap encB8 l105)) hf118 ?_ ?_ ?_
      · have hS119 := hS72.nilrow 3 1
        have h121 := h52.le le55
        have h122 := h121.le le67
        exact ⟨φ63, A49, c50, none, 0, rfl, rfl, rfl, rfl, rfl, rfl, rfl, rfl, rfl, rfl, rfl, (PHeap.Le.refl _), (hS119.pick [2, 3, 1, 0] _ (by decide) rfl), h122⟩
      · rintro k114 ⟨l105, x108, x109, l110⟩ xx125 σ123 W124 hk128 ⟨φ130, A106, c107, A111, c112, fi129, f133, f134, f135, f136, f137, f138, f139, f140, f141, f142, le131, hS132, h143⟩ hx126 hb127
        try dsimp only at hx126
        have c144 : Hid ((↑k114 : Int) < (↑x16.length : Int)) := Hid.mk (lp_lt0 hk128)
        replace hk128 := Hid.mk hk128
        have hi145 : Hid (w64 ((↑k114 : Int) + 1) = (↑(k114 + 1) : Int)) := Hid.mk (by have h1 := hle117.out; have h2 := c144.out; rw [w64_in] <;> omega)
        refine CK.seq ?_
        refine CK.reg (ks := []) (.fl 0 (.nil)) rfl ?_
        refine OKS.r rfl rfl rfl rfl (fun _ => Runs.lss rfl fi129 f142) ?_
        refine OKS.e ?_
        refine thenQ_n ?_
        refine CK.seq ?_
        refine CK.condT (decT c144.out) ?_
        refine CK.skip ?_
        refine thenQ_n ?_
        refine CK.seq ?_
        refine CK.block ?_
        refine CK.seq ?_
        refine CK.reg (ks := []) (.fl 0 (.fl 1 (.fl 2 (.fl 3 (.fl 4 (.nil)))))) rfl ?_
        refine OKS.r rfl rfl rfl rfl (fun _ => Runs.mv rfl fi129) ?_
        obtain ⟨x146, h147, hm148⟩ := bnd hx126
        have h149 := h34.le le46
        have h150 := h149.le le55
        have h151 := h150.le le67
        have h152 := h151.le le131
        obtain ⟨b153, off154, hA155, hC156⟩ := h152.el (fun _ => rfl) (idx_get h147)
        refine OKS.r rfl rfl rfl rfl (fun _ => Runs.iaN rfl f141 hA155 fi129 Try.runUnderlying23 Try.sizeOf3 (idx_lt h147)) ?_
        refine OKS.m rfl rfl rfl rfl (hS132.ldC (f := 0) hC156 (v := .int .i64 x146) rfl rfl Try.isAgg3 rfl) rfl ?_
        refine OKS.r rfl rfl rfl rfl (fun _ => Runs.as rfl rfl) ?_
        refine OKS.r rfl rfl rfl rfl (fun _ => Runs.as rfl rfl) ?_
        refine OKS.e ?_
        refine thenQ_n ?_
        refine CK.seq ?_
        refine CK.seq ?_
        refine CK.reg (ks := []) (.fl 0 (.fl 1 (.fl 2 (.fl 3 (.fl 4 (.fx 5 (.fl 6 (.nil)) .stop)))))) rfl ?_
        refine OKS.r rfl rfl rfl rfl (fun _ => Runs.mv rfl f139) ?_
        refine OKS.r rfl rfl rfl rfl (fun _ => Runs.mv rfl rfl) ?_
        obtain ⟨_, h157, hm158⟩ := bnd hm148
        obtain ⟨b159, hA160⟩ := hS132.rowSome (j := 2) rfl (by rw [flatMap_len (f := encT_api_Span) (sz := 2) (fun _ => rfl) x59]; have hz := chk_lt h157; omega)
        refine OKS.r rfl rfl rfl rfl (fun _ => Runs.iaN rfl rfl hA160 rfl Try.runUnderlying38 Try.sizeOf31 (chk_lt h157)) ?_
        have hg161 := gd_at (xs := x59) (chk_lt h157)
        refine OKS.m rfl rfl rfl rfl (hS132.ldRA (j := 2) rfl hA160 rfl rfl Try.isAgg31 Try.sizeOf31 (vs := [.int .i64 ((gd x59 k114).Lo), .int .i64 ((gd x59 k114).Hi)]) (flatMap_sub (sz := 2) (fun _ => rfl) _ _ _ hg161 (by omega) rfl) rfl) rfl ?_
        refine OKS.r rfl rfl rfl rfl (fun _ => Runs.mv rfl rfl) ?_
        obtain ⟨x162, h163, hm164⟩ := bnd hm158
        refine OKS.callH 0 rfl rfl rfl rfl (Enters.mk rfl rfl Try.call43 (mapcons rfl (mapcons rfl mapnil)) rfl) hS132 (fun hs => w_klisterlaw03_has (gd x59 k114) x146 W124 φ130 hs h163) (.inr rfl) ?_
        rintro φ165 L166 v167 W168 le169 hS170 ⟨rfl, rfl⟩
        have hS171 : St ⟨w, [], φ⟩ φ165 [.blk b48 134 [.slice A106 l105.length c107, .int .i64 x108, .int .u32 x109], .blk b10 134 [.slice A31 x18.bytes.length c32, .int .i64 x18.next, .int .u32 x18.state], .row A69 c70 31 2 (List.flatMap encT_api_Span x59), .row A111 c112 3 1 (List.flatMap encI l110)] W168 := hS170
        refine OKS.r rfl rfl rfl rfl (fun _ => Runs.notT rfl rfl) ?_
        refine OKS.e ?_
        refine thenQ_n ?_
        by_cases c172 : x162 = true
        · have hm173 := hm164; rw [if_pos c172] at hm173; replace c172 := Hid.mk c172
          refine CK.condF (congrArg (fun b => Value.bool (!b)) c172.out) ?_
          refine CK.skip ?_
          refine thenQ_n ?_
          refine CK.reg (ks := []) (.fl 0 (.fl 1 (.fl 2 (.fx 3 (.fl 4 (.fx 5 (.fx 6 (.fl 7 (.nil)) .stop) .stop)) .stop)))) rfl ?_
          refine OKS.r rfl rfl rfl rfl (fun _ => Runs.mv rfl f140) ?_
          refine OKS.r rfl rfl rfl rfl (fun _ => Runs.mv rfl f138) ?_
          refine OKS.r rfl rfl rfl rfl (fun _ => Runs.mv rfl rfl) ?_
          have h174 := h143.le le169
          obtain ⟨⟨x175, x176⟩, h177, hm178⟩ := bnd hm173
          try dsimp only at hm178
          refine OKS.callH 1 rfl rfl rfl rfl (Enters.mk rfl rfl Try.call61 (mapcons rfl (mapcons rfl (mapcons rfl mapnil))) rfl) hS171 (fun hs => w_klisterkit_Deck_Between (⟨l105, x108, x109⟩ : T_klisterkit_Deck) b48 A106 c107 0 x146 W168 φ165 hs h174 h177) (.inl rfl) ?_
          rintro φ179 L180 v181 W182 le183 hS184 ⟨A185, c186, rfl, rfl, h187⟩
          have hS188 : St ⟨w, [], φ⟩ φ179 [.blk b48 134 [.slice A185 x176.bytes.length c186, .int .i64 x176.next, .int .u32 x176.state], .blk b10 134 [.slice A31 x18.bytes.length c32, .int .i64 x18.next, .int .u32 x18.state], .row A69 c70 31 2 (List.flatMap encT_api_Span x59), .row A111 c112 3 1 (List.flatMap encI l110)] W182 := hS184
          refine OKS.r rfl rfl rfl rfl (fun _ => Runs.min rfl rfl rfl) ?_
          refine OKS.buildSlice (pv := [(0, .int .i64 (min 5 x175))]) (zs := [.int .i64 0]) (cs := [.int .i64 (min 5 x175)]) rfl rfl rfl rfl rfl (mapcons2 rfl mapnil2) Try.runUnderlying23 Try.sizeOf3 Try.zeroValue3 rfl rfl rfl rfl rfl hS188 ?_
          intro W189 b190 hS191
          have hS193 : St ⟨w, [], φ⟩ φ179 [.row (some ⟨b190, 0, none⟩) 1 3 1 (List.flatMap encI [min 5 x175]), .blk b48 134 [.slice A185 x176.bytes.length c186, .int .i64 x176.next, .int .u32 x176.state], .blk b10 134 [.slice A31 x18.bytes.length c32, .int .i64 x18.next, .int .u32 x18.state], .row A69 c70 31 2 (List.flatMap encT_api_Span x59), .row A111 c112 3 1 (List.flatMap encI l110)] W189 := hS191
          obtain ⟨x194, h195, hm196⟩ := bnd hm178
          refine OKS.append (j := 4) (enc := encI) (xs := l110) (ys := [min 5 x175]) (zs := x194) rfl rfl rfl rfl rfl Try.underlying23 info3 rfl rfl rfl rfl rfl rfl hS193 rfl rfl rfl (hS193.srcR (j := 0) rfl (by decide) (flatMap_len (f := encI) (sz := 1) (fun _ => rfl) [min 5 x175])) (fun _ => rfl) (fun _ => rfl) h195 rfl ?_
          intro A197 c198 W199 hS200
          have hS201 : St ⟨w, [], φ⟩ φ179 [.row (some ⟨b190, 0, none⟩) 1 3 1 (List.flatMap encI [min 5 x175]), .blk b48 134 [.slice A185 x176.bytes.length c186, .int .i64 x176.next, .int .u32 x176.state], .blk b10 134 [.slice A31 x18.bytes.length c32, .int .i64 x18.next, .int .u32 x18.state], .row A69 c70 31 2 (List.flatMap encT_api_Span x59), .row A197 c198 3 1 (List.flatMap encI x194)] W199 := hS200
          refine OKS.r rfl rfl rfl rfl (fun _ => Runs.as rfl rfl) ?_
          refine OKS.e ?_
          refine blockQ_n ?_
          refine thenQ_n ?_
          refine CK.reg (ks := []) (.fl 0 (.fl 1 (.nil))) rfl ?_
          refine OKS.r rfl rfl rfl rfl (fun _ => Runs.to (Runs.addw rfl fi129 rfl) (congrArg (Value.int .i64) hi145.out)) ?_
          refine OKS.r rfl rfl rfl rfl (fun _ => Runs.mv rfl rfl) ?_
          refine OKS.e ?_
          obtain rfl := Option.some.inj hm196
          exact thenQ_n ⟨rfl, _, rfl, ⟨φ179, A185, c186, A197, c198, rfl, f133, f134, f135, f136, f137, f138, f139, rfl, f141, f142, ((le131.trans le169).trans le183), (hS201.pick [1, 2, 3, 4] _ (by decide) rfl), h187⟩⟩
        · have hm210 := hm164; rw [if_neg c172] at hm210; replace c172 := Hid.mk c172
          refine CK.condT (congrArg (fun b => Value.bool (!b)) (Bool.eq_false_iff.2 c172.out)) ?_
          refine CK.seq ?_
          refine CK.reg (ks := []) (.fl 0 (.nil)) rfl ?_
          refine OKS.r rfl rfl rfl rfl (fun _ => Runs.as rfl rfl) ?_
          refine OKS.e ?_
          refine thenQ_n ?_
          refine CK.ret ?_
          refine thenQ_r ?_
          refine blockQ_r ?_
          refine thenQ_r ?_
          obtain ⟨v211, hm212, e213⟩ := esc_spec hm210
          obtain rfl := jn_inr hm76 hX116 (hb127 v211 e213)
          refine thenQ_r ?_
          refine blockQ_r ?_
          refine thenQ_r ?_
          cases hm212
          exact ⟨rfl, _, (res1 rfl), φ165, _, (hS171.pick [] _ (by decide) rfl), rfl, rfl⟩
      · rintro ⟨y218, y219, y220, y221⟩ σ214 W215 ⟨φ226, A222, c223, A224, c225, fi217, f229, f230, f231, f232, f233, f234, f235, f236, f237, f238, le227, hS228, h239⟩ hb216
        have hm240 := jn_inl hm76 hX116 hb216
        try dsimp only at hm240
        have c241 : Hid (¬ ((↑(((↑x16.length : Int) : Int) - 0).toNat : Int) < (↑x16.length : Int))) := Hid.mk (lp_end0)
        refine CK.seq ?_
        refine CK.reg (ks := []) (.fl 0 (.nil)) rfl ?_
        refine OKS.r rfl rfl rfl rfl (fun _ => Runs.lss rfl fi217 f238) ?_
        refine OKS.e ?_
        refine thenQ_n ?_
        refine CK.seq ?_
        refine CK.condF (decF c241.out) ?_
        refine CK.exit ?_
        refine thenQ_e ?_
        refine thenQ_e ?_
        refine blockQ_h ?_
        refine thenQ_n ?_
        refine CK.seq ?_
        refine CK.reg (ks := []) (.fl 0 (.fl 1 (.fx 2 (.fl 3 (.fl 4 (.fl 5 (.fl 6 (.fl 7 (.nil)))))) .stop))) rfl ?_
        refine OKS.r rfl rfl rfl rfl (fun _ => Runs.mv rfl f236) ?_
        refine OKS.r rfl rfl rfl rfl (fun _ => Runs.mv rfl f232) ?_
        obtain ⟨φ242, le243, hs244, hS245⟩ := hS228.freezeR (k := 3) (n := y221.length) rfl (flatMap_len (f := encI) (sz := 1) (fun _ => rfl) y221) (by decide)
        have hS246 : St ⟨w, [], φ⟩ φ242 [.blk b48 134 [.slice A222 y218.length c223, .int .i64 y219, .int .u32 y220], .blk b10 134 [.slice A31 x18.bytes.length c32, .int .i64 x18.next, .int .u32 x18.state], .row A69 c70 31 2 (List.flatMap encT_api_Span x59)] W215 := hS245
        have h247 := hs56.le le67
        have h248 := h247.le le227
        have h249 := h248.le le243
        obtain ⟨⟨x250, x251⟩, h252, hm253⟩ := bnd hm240
        try dsimp only at hm253
        refine OKS.callH 0 rfl rfl rfl rfl (Enters.mk rfl rfl Try.call23 (mapcons rfl (mapcons rfl mapnil)) rfl) hS246 (fun hs => w_target_Few y221 A224 c225 x17 A29 c30 W215 φ242 hs hs244 h249 h252) (.inr rfl) ?_
        rintro φ254 L255 v256 W257 le258 hS259 ⟨rfl, rfl⟩
        have hS260 : St ⟨w, [], φ⟩ φ254 [.blk b48 134 [.slice A222 y218.length c223, .int .i64 y219, .int .u32 y220], .blk b10 134 [.slice A31 x18.bytes.length c32, .int .i64 x18.next, .int .u32 x18.state], .row A69 c70 31 2 (List.flatMap encT_api_Span x59)] W257 := hS259
        refine OKS.r rfl rfl rfl rfl (fun _ => Runs.mv rfl rfl) ?_
        refine OKS.r rfl rfl rfl rfl (fun _ => Runs.ext rfl rfl (v := .bool x250) rfl) ?_
        refine OKS.r rfl rfl rfl rfl (fun _ => Runs.ext rfl rfl (v := .int .i64 x251) rfl) ?_
        refine OKS.r rfl rfl rfl rfl (fun _ => Runs.as rfl rfl) ?_
        refine OKS.r rfl rfl rfl rfl (fun _ => Runs.as rfl rfl) ?_
        refine OKS.e ?_
        refine thenQ_n ?_
        refine CK.seq ?_
        refine CK.reg (ks := []) (.fl 0 (.fl 1 (.fx 2 (.fl 3 (.fl 4 (.fl 5 (.fl 6 (.fl 7 (.nil)))))) .stop))) rfl ?_
        refine OKS.r rfl rfl rfl rfl (fun _ => Runs.mv rfl f236) ?_
        refine OKS.r rfl rfl rfl rfl (fun _ => Runs.mv rfl f232) ?_
        have h261 := hs244.le le258
        have h262 := h249.le le258
        obtain ⟨⟨x263, x264⟩, h265, hm266⟩ := bnd hm253
        try dsimp only at hm266
        refine OKS.callH 0 rfl rfl rfl rfl (Enters.mk rfl rfl Try.call63 (mapcons rfl (mapcons rfl mapnil)) rfl) hS260 (fun hs => w_target_Round y221 A224 c225 x17 A29 c30 W257 φ254 hs h261 h262 h265) (.inr rfl) ?_
        rintro φ267 L268 v269 W270 le271 hS272 ⟨A273, c274, rfl, rfl⟩
        have hS276 : St ⟨w, [], φ⟩ φ267 [.row A273 c274 114 2 (List.flatMap encT_target_Step x263), .blk b48 134 [.slice A222 y218.length c223, .int .i64 y219, .int .u32 y220], .blk b10 134 [.slice A31 x18.bytes.length c32, .int .i64 x18.next, .int .u32 x18.state], .row A69 c70 31 2 (List.flatMap encT_api_Span x59)] W270 := hS272
        refine OKS.r rfl rfl rfl rfl (fun _ => Runs.mv rfl rfl) ?_
        refine OKS.r rfl rfl rfl rfl (fun _ => Runs.ext rfl rfl (v := .slice A273 x263.length c274) rfl) ?_
        refine OKS.r rfl rfl rfl rfl (fun _ => Runs.ext rfl rfl (v := .int .i64 x264) rfl) ?_
        refine OKS.r rfl rfl rfl rfl (fun _ => Runs.as rfl rfl) ?_
        refine OKS.r rfl rfl rfl rfl (fun _ => Runs.as rfl rfl) ?_
        refine OKS.e ?_
        refine thenQ_n ?_
        refine CK.seq ?_
        refine CK.reg (ks := []) (.fl 0 (.fl 1 (.fx 2 (.fl 3 (.fl 4 (.fx 5 (.fx 6 (.fl 7 (.fl 8 (.fl 9 (.fl 10 (.fl 11 (.nil)))))) .stop) .stop))) .stop))) rfl ?_
        refine OKS.r rfl rfl rfl rfl (fun _ => Runs.mv rfl f236) ?_
        refine OKS.r rfl rfl rfl rfl (fun _ => Runs.mv rfl f236) ?_
        refine OKS.buildSlice (pv := [(0, .slice A224 y221.length c225), (1, .slice A224 y221.length c225)]) (zs := [.slice none 0 0, .slice none 0 0]) (cs := [.slice A224 y221.length c225, .slice A224 y221.length c225]) rfl rfl rfl rfl rfl (mapcons2 rfl (mapcons2 rfl mapnil2)) Try.runUnderlying74 Try.sizeOf23 Try.zeroValue23 rfl rfl rfl rfl rfl hS276 ?_
        intro W277 b278 hS279
        have h281 := h261.le le271
        have hr282 : RlL φ267 rl23 [y221, y221] [.slice A224 y221.length c225, .slice A224 y221.length c225] := (RlL.cons (R := rl23) (x := y221) (vs := [.slice A224 y221.length c225]) ⟨A224, c225, rfl, h281⟩ (RlL.cons (R := rl23) (x := y221) (vs := [.slice A224 y221.length c225]) ⟨A224, c225, rfl, h281⟩ RlL.nil))
        have hS283 : St ⟨w, [], φ⟩ φ267 [.row (some ⟨b278, 0, none⟩) 2 23 1 [.slice A224 y221.length c225, .slice A224 y221.length c225], .row A273 c274 114 2 (List.flatMap encT_target_Step x263), .blk b48 134 [.slice A222 y218.length c223, .int .i64 y219, .int .u32 y220], .blk b10 134 [.slice A31 x18.bytes.length c32, .int .i64 x18.next, .int .u32 x18.state], .row A69 c70 31 2 (List.flatMap encT_api_Span x59)] W277 := hS279
        refine OKS.r rfl rfl rfl rfl (fun _ => Runs.mv rfl f232) ?_
        refine OKS.r rfl rfl rfl rfl (fun _ => Runs.mv rfl f232) ?_
        refine OKS.buildSlice (pv := [(0, .slice A29 x17.length c30), (1, .slice A29 x17.length c30)]) (zs := [.slice none 0 0, .slice none 0 0]) (cs := [.slice A29 x17.length c30, .slice A29 x17.length c30]) rfl rfl rfl rfl rfl (mapcons2 rfl (mapcons2 rfl mapnil2)) Try.runUnderlying125 Try.sizeOf24 Try.zeroValue24 rfl rfl rfl rfl rfl hS283 ?_
        intro W284 b285 hS286
        have h288 := h262.le le271
        have hr289 : RlL φ267 rl24 [x17, x17] [.slice A29 x17.length c30, .slice A29 x17.length c30] := (RlL.cons (R := rl24) (x := x17) (vs := [.slice A29 x17.length c30]) ⟨A29, c30, rfl, h288⟩ (RlL.cons (R := rl24) (x := x17) (vs := [.slice A29 x17.length c30]) ⟨A29, c30, rfl, h288⟩ RlL.nil))
        have hS290 : St ⟨w, [], φ⟩ φ267 [.row (some ⟨b285, 0, none⟩) 2 24 1 [.slice A29 x17.length c30, .slice A29 x17.length c30], .row (some ⟨b278, 0, none⟩) 2 23 1 [.slice A224 y221.length c225, .slice A224 y221.length c225], .row A273 c274 114 2 (List.flatMap encT_target_Step x263), .blk b48 134 [.slice A222 y218.length c223, .int .i64 y219, .int .u32 y220], .blk b10 134 [.slice A31 x18.bytes.length c32, .int .i64 x18.next, .int .u32 x18.state], .row A69 c70 31 2 (List.flatMap encT_api_Span x59)] W284 := hS286
        obtain ⟨φ291, le292, hs293, hS294⟩ := hS290.freezeRR (R := rl23) (k := 1) rfl hr282 rfl (by decide)
        have hS295 : St ⟨w, [], φ⟩ φ291 [.row (some ⟨b285, 0, none⟩) 2 24 1 [.slice A29 x17.length c30, .slice A29 x17.length c30], .row A273 c274 114 2 (List.flatMap encT_target_Step x263), .blk b48 134 [.slice A222 y218.length c223, .int .i64 y219, .int .u32 y220], .blk b10 134 [.slice A31 x18.bytes.length c32, .int .i64 x18.next, .int .u32 x18.state], .row A69 c70 31 2 (List.flatMap encT_api_Span x59)] W284 := hS294
        have h300 := hr289.le le292
        obtain ⟨φ296, le297, hs298, hS299⟩ := hS295.freezeRR (R := rl24) (k := 0) rfl h300 rfl (by decide)
        have hS301 : St ⟨w, [], φ⟩ φ296 [.row A273 c274 114 2 (List.flatMap encT_target_Step x263), .blk b48 134 [.slice A222 y218.length c223, .int .i64 y219, .int .u32 y220], .blk b10 134 [.slice A31 x18.bytes.length c32, .int .i64 x18.next, .int .u32 x18.state], .row A69 c70 31 2 (List.flatMap encT_api_Span x59)] W284 := hS299
        have h302 := hs293.le le297
        obtain ⟨⟨x303, x304⟩, h305, hm306⟩ := bnd hm266
        try dsimp only at hm306
        refine OKS.callH 0 rfl rfl rfl rfl (Enters.mk rfl rfl Try.call69 (mapcons rfl (mapcons rfl mapnil)) rfl) hS301 (fun hs => w_target_Due [y221, y221] (some ⟨b278, 0, none⟩) 2 [x17, x17] (some ⟨b285, 0, none⟩) 2 W284 φ296 hs h302 hs298 h305) (.inr rfl) ?_
        rintro φ307 L308 v309 W310 le311 hS312 ⟨A313, c314, rfl, rfl⟩
        have hS316 : St ⟨w, [], φ⟩ φ307 [.row A313 c314 3 1 (List.flatMap encI x303), .row A273 c274 114 2 (List.flatMap encT_target_Step x263), .blk b48 134 [.slice A222 y218.length c223, .int .i64 y219, .int .u32 y220], .blk b10 134 [.slice A31 x18.bytes.length c32, .int .i64 x18.next, .int .u32 x18.state], .row A69 c70 31 2 (List.flatMap encT_api_Span x59)] W310 := hS312
        refine OKS.r rfl rfl rfl rfl (fun _ => Runs.mv rfl rfl) ?_
        refine OKS.r rfl rfl rfl rfl (fun _ => Runs.ext rfl rfl (v := .slice A313 x303.length c314) rfl) ?_
        refine OKS.r rfl rfl rfl rfl (fun _ => Runs.ext rfl rfl (v := .int .i64 x304) rfl) ?_
        refine OKS.r rfl rfl rfl rfl (fun _ => Runs.as rfl rfl) ?_
        refine OKS.r rfl rfl rfl rfl (fun _ => Runs.as rfl rfl) ?_
        refine OKS.e ?_
        refine thenQ_n ?_
        refine CK.seq ?_
        refine CK.seq ?_
        refine CK.fresh fun σ317 hσ318 => ?_
        have f319 : σ317 2 = .int .u8 p2 := (hσ318 2).trans f229
        have f320 : σ317 3 = .int .u8 p3 := (hσ318 3).trans f230
        have f321 : σ317 9 = .slice A27 x16.length c28 := (hσ318 9).trans f231
        have f322 : σ317 10 = .slice A29 x17.length c30 := (hσ318 10).trans f232
        have f323 : σ317 11 = .int .i64 (↑x16.length : Int) := (hσ318 11).trans f233
        have f324 : σ317 14 = .int .i64 x251 := (hσ318 14).trans rfl
        have f325 : σ317 18 = .bool x250 := (hσ318 18).trans rfl
        have f326 : σ317 20 = .int .i64 x264 := (hσ318 20).trans rfl
        have f327 : σ317 21 = .slice A313 x303.length c314 := (hσ318 21).trans rfl
        have f328 : σ317 22 = .int .i64 x304 := (hσ318 22).trans rfl
        clear hσ318
        refine CK.reg (ks := []) (.fl 0 (.fl 1 (.fl 2 (.fl 3 (.fl 4 (.fl 5 (.fl 6 (.fl 7 (.fl 8 (.fl 9 (.fl 10 (.fl 11 (.fl 12 (.fl 13 (.fl 14 (.fl 15 (.fl 16 (.fl 17 (.nil))))))))))))))))))) rfl ?_
        refine OKS.r rfl rfl rfl rfl (fun _ => Runs.mv rfl f324) ?_
        refine OKS.r rfl rfl rfl rfl (fun _ => Runs.neq rfl rfl rfl) ?_
        refine OKS.r rfl rfl rfl rfl (fun _ => Runs.mv rfl rfl) ?_
        by_cases c329 : x251 = 0
        · have hm330 := hm306; rw [if_pos c329] at hm330; replace c329 := Hid.mk c329
          refine OKS.r rfl rfl rfl (wantedY rfl rfl (decF (fun h => h c329.out))) (fun _ => Runs.mv rfl f325) ?_
          refine OKS.r rfl rfl rfl rfl (fun _ => Runs.pickF rfl (decF (fun h => h c329.out)) rfl) ?_
          refine OKS.r rfl rfl rfl rfl (fun _ => Runs.mv rfl rfl) ?_
          by_cases c331 : x250 = true
          · have hm332 := hm330; rw [if_pos c331] at hm332; replace c331 := Hid.mk c331
            refine OKS.p rfl rfl rfl (wantedN rfl rfl (congrArg Value.bool c331.out) rfl) ?_
            refine OKS.p rfl rfl rfl (wantedN rfl rfl (congrArg Value.bool c331.out) rfl) ?_
            refine OKS.r rfl rfl rfl rfl (fun _ => Runs.pickT rfl (congrArg Value.bool c331.out) rfl) ?_
            refine OKS.r rfl rfl rfl rfl (fun _ => Runs.mv rfl rfl) ?_
            refine OKS.p rfl rfl rfl (wantedN rfl rfl rfl rfl) ?_
            refine OKS.p rfl rfl rfl (wantedN rfl rfl rfl rfl) ?_
            refine OKS.r rfl rfl rfl rfl (fun _ => Runs.pickT rfl rfl rfl) ?_
            refine OKS.r rfl rfl rfl rfl (fun _ => Runs.mv rfl rfl) ?_
            refine OKS.p rfl rfl rfl (wantedN rfl rfl rfl rfl) ?_
            refine OKS.p rfl rfl rfl (wantedN rfl rfl rfl rfl) ?_
            refine OKS.p rfl rfl rfl (wantedN rfl rfl rfl rfl) ?_
            refine OKS.r rfl rfl rfl rfl (fun _ => Runs.pickT rfl rfl rfl) ?_
            refine OKS.e ?_
            refine thenQ_n ?_
            refine CK.condT rfl ?_
            refine CK.seq ?_
            refine CK.reg (ks := []) (.fl 0 (.nil)) rfl ?_
            refine OKS.r rfl rfl rfl rfl (fun _ => Runs.as rfl rfl) ?_
            refine OKS.e ?_
            refine thenQ_n ?_
            refine CK.ret ?_
            refine thenQ_r ?_
            cases hm332
            exact ⟨rfl, _, (res1 rfl), φ307, _, (hS316.pick [] _ (by decide) rfl), rfl, rfl⟩
          · have hm333 := hm330; rw [if_neg c331] at hm333; replace c331 := Hid.mk c331
            refine OKS.r rfl rfl rfl (wantedY rfl rfl (congrArg Value.bool (Bool.eq_false_iff.2 c331.out))) (fun _ => Runs.mv rfl f326) ?_
            refine OKS.r rfl rfl rfl (wantedY rfl rfl (congrArg Value.bool (Bool.eq_false_iff.2 c331.out))) (fun _ => Runs.neq rfl rfl rfl) ?_
            refine OKS.r rfl rfl rfl rfl (fun _ => Runs.pickF rfl (congrArg Value.bool (Bool.eq_false_iff.2 c331.out)) rfl) ?_
            refine OKS.r rfl rfl rfl rfl (fun _ => Runs.mv rfl rfl) ?_
            by_cases c334 : x264 = 6
            · have hm335 := hm333; rw [if_pos c334] at hm335; replace c334 := Hid.mk c334
              refine OKS.r rfl rfl rfl (wantedY rfl rfl (decF (fun h => h c334.out))) (fun _ => Runs.mv rfl f328) ?_
              refine OKS.r rfl rfl rfl (wantedY rfl rfl (decF (fun h => h c334.out))) (fun _ => Runs.neq rfl rfl rfl) ?_
              refine OKS.r rfl rfl rfl rfl (fun _ => Runs.pickF rfl (decF (fun h => h c334.out)) rfl) ?_
              refine OKS.r rfl rfl rfl rfl (fun _ => Runs.mv rfl rfl) ?_
              by_cases c336 : x304 = 0
              · have hm337 := hm335; rw [if_pos c336] at hm337; replace c336 := Hid.mk c336
                refine OKS.r rfl rfl rfl (wantedY rfl rfl (decF (fun h => h c336.out))) (fun _ => Runs.mv rfl f327) ?_
                refine OKS.r rfl rfl rfl (wantedY rfl rfl (decF (fun h => h c336.out))) (fun _ => Runs.len rfl rfl Try.runUnderlying23) ?_
                refine OKS.r rfl rfl rfl (wantedY rfl rfl (decF (fun h => h c336.out))) (fun _ => Runs.gtr rfl rfl rfl) ?_
                refine OKS.r rfl rfl rfl rfl (fun _ => Runs.pickF rfl (decF (fun h => h c336.out)) rfl) ?_
                refine OKS.e ?_
                refine thenQ_n ?_
                by_cases c338 : 0 < (↑x303.length : Int)
                · have hm339 := hm337; rw [if_pos c338] at hm339; replace c338 := Hid.mk c338
                  refine CK.condT (decT c338.out) ?_
                  refine CK.seq ?_
                  refine CK.reg (ks := []) (.fl 0 (.nil)) rfl ?_
                  refine OKS.r rfl rfl rfl rfl (fun _ => Runs.as rfl rfl) ?_
                  refine OKS.e ?_
                  refine thenQ_n ?_
                  refine CK.ret ?_
                  refine thenQ_r ?_
                  cases hm339
                  exact ⟨rfl, _, (res1 rfl), φ307, _, (hS316.pick [] _ (by decide) rfl), rfl, rfl⟩
                · have hm340 := hm337; rw [if_neg c338] at hm340; replace c338 := Hid.mk c338
                  refine CK.condF (decF c338.out) ?_
                  refine CK.skip ?_
                  refine thenQ_n ?_
                  refine CK.seq ?_
                  refine CK.reg (ks := []) (.fl 0 (.fl 1 (.fl 2 (.fl 3 (.fl 4 (.nil)))))) rfl ?_
                  refine OKS.r rfl rfl rfl rfl (fun _ => Runs.mv rfl f319) ?_
                  refine OKS.r rfl rfl rfl rfl (fun _ => Runs.cvw rfl rfl Try.runUnderlying5 Try.runUnderlying3 rfl rfl) ?_
                  refine OKS.r rfl rfl rfl rfl (fun _ => Runs.mv rfl f323) ?_
                  obtain ⟨x341, h342, hm343⟩ := bnd hm340
                  refine OKS.r rfl rfl rfl rfl (fun _ => Runs.rem rfl rfl rfl h342) ?_
                  refine OKS.r rfl rfl rfl rfl (fun _ => Runs.as rfl rfl) ?_
                  refine OKS.e ?_
                  refine thenQ_n ?_
                  refine CK.seq ?_
                  refine CK.reg (ks := []) (.fl 0 (.fl 1 (.fl 2 (.fl 3 (.fl 4 (.fl 5 (.fl 6 (.fl 7 (.fl 8 (.nil)))))))))) rfl ?_
                  refine OKS.r rfl rfl rfl rfl (fun _ => Runs.mv rfl rfl) ?_
                  refine OKS.r rfl rfl rfl rfl (fun _ => Runs.mv rfl f320) ?_
                  refine OKS.r rfl rfl rfl rfl (fun _ => Runs.cvw rfl rfl Try.runUnderlying5 Try.runUnderlying3 rfl rfl) ?_
                  refine OKS.r rfl rfl rfl rfl (fun _ => Runs.mv rfl f323) ?_
                  refine OKS.r rfl rfl rfl rfl (fun _ => Runs.mv rfl rfl) ?_
                  refine OKS.r rfl rfl rfl rfl (fun _ => Runs.subw rfl rfl rfl) ?_
                  obtain ⟨x344, h345, hm346⟩ := bnd hm343
                  refine OKS.r rfl rfl rfl rfl (fun _ => Runs.rem rfl rfl rfl h345) ?_
                  refine OKS.r rfl rfl rfl rfl (fun _ => Runs.addw rfl rfl rfl) ?_
                  refine OKS.r rfl rfl rfl rfl (fun _ => Runs.as rfl rfl) ?_
                  refine OKS.e ?_
                  refine thenQ_n ?_
                  refine CK.seq ?_
                  refine CK.reg (ks := []) (.fl 0 (.nil)) rfl ?_
                  refine OKS.r rfl rfl rfl rfl (fun _ => Runs.as rfl rfl) ?_
                  refine OKS.e ?_
                  refine thenQ_n ?_
                  refine CK.seq ?_
                  refine CK.seq ?_
                  refine CK.reg (ks := []) (.fl 0 (.fl 1 (.fl 2 (.fl 3 (.fl 4 (.fl 5 (.fl 6 (.nil)))))))) rfl ?_
                  refine OKS.r rfl rfl rfl rfl (fun _ => Runs.mv rfl f321) ?_
                  refine OKS.r rfl rfl rfl rfl (fun _ => Runs.mv rfl rfl) ?_
                  refine OKS.r rfl rfl rfl rfl (fun _ => Runs.mv rfl rfl) ?_
                  refine OKS.r rfl rfl rfl rfl (fun _ => Runs.addw rfl rfl rfl) ?_
                  obtain ⟨x347, h348, hm349⟩ := bnd hm346
                  have h359 := h34.le le46
                  have h360 := h359.le le55
                  have h361 := h360.le le67
                  have h362 := h361.le le227
                  have h363 := h362.le le243
                  have h364 := h363.le le258
                  have h365 := h364.le le271
                  have h366 := h365.le le292
                  have h367 := h366.le le297
                  have h368 := h367.le le311
                  obtain ⟨sl358, ha355, hab357, hb356, hn354⟩ := Sl.cutM (sz := 1) (f := encI) h368 (fun _ => rfl) h348
                  refine OKS.r (v := .slice (if c28 = (x341 : Int).toNat then A27 else Option.map (·.add ((x341 : Int).toNat * 1)) A27) x347.length (c28 - (x341 : Int).toNat)) rfl rfl rfl rfl (fun _ => Runs.to (Runs.slc (sz := 1) (a := x341) (b := (w64 ((w64 (x341 + x344)) + 1))) rfl rfl (.inl ⟨_, rfl, rfl⟩) (.inl ⟨_, rfl, rfl⟩) Try.runUnderlying23 Try.sizeOf3 ha355 hab357 hb356 (h368).cap) (by rw [hn354])) ?_
                  generalize hA_A351 : (if c28 = (x341 : Int).toNat then A27 else Option.map (·.add ((x341 : Int).toNat * 1)) A27) = A351 at sl358 ⊢
                  generalize hc_c352 : c28 - (x341 : Int).toNat = c352 at sl358 ⊢
                  refine OKS.r rfl rfl rfl rfl (fun _ => Runs.len rfl rfl Try.runUnderlying23) ?_
                  refine OKS.r rfl rfl rfl rfl (fun _ => Runs.mv rfl rfl) ?_
                  refine OKS.e ?_
                  refine thenQ_n ?_
                  refine CK.block ?_
                  obtain ⟨y380, hf377, hm376⟩ := bnd hm349
                  obtain ⟨hle378, hf379⟩ := forR'_le hf377
                  replace hle378 := Hid.mk hle378
                  refine CK.forN' (fun k375 x374 σ_ w_ => ∃ (φ_ : PHeap), σ_ 137 = .int .i64 (↑k375 : Int) ∧ σ_ 10 = .slice A29 x17.length c30 ∧ σ_ 11 = .int .i64 (↑x16.length : Int) ∧ σ_ 23 = .int .i64 x341 ∧ σ_ 24 = .int .i64 (w64 (x341 + x344)) ∧ σ_ 25 = .int .i64 x374 ∧ σ_ 135 = .slice A351 x347.length c352 ∧ σ_ 136 = .int .i64 (↑x347.length : Int) ∧ PHeap.Le φ307 φ_ ∧ St ⟨w, [], φ⟩ φ_ [.blk b48 134 [.slice A222 y218.length c223, .int .i64 y219, .int .u32 y220], .blk b10 134 [.slice A31 x18.bytes.length c32, .int .i64 x18.next, .int .u32 x18.state]] w_) hf379 ?_ ?_ ?_
                  · exact ⟨φ307, rfl, f322, f323, rfl, rfl, rfl, rfl, rfl, (PHeap.Le.refl _), (hS316.pick [2, 3] _ (by decide) rfl)⟩
                  · rintro k375 x374 xx383 σ381 W382 hk386 ⟨φ388, fi387, f391, f392, f393, f394, f395, f396, f397, le389, hS390⟩ hx384
                    have c398 : Hid ((↑k375 : Int) < (↑x347.length : Int)) := Hid.mk (lp_lt0 hk386)
                    replace hk386 := Hid.mk hk386
                    have hi399 : Hid (w64 ((↑k375 : Int) + 1) = (↑(k375 + 1) : Int)) := Hid.mk (by have h1 := hle378.out; have h2 := c398.out; rw [w64_in] <;> omega)
                    refine CK.seq ?_
                    refine CK.reg (ks := []) (.fl 0 (.nil)) rfl ?_
                    refine OKS.r rfl rfl rfl rfl (fun _ => Runs.lss rfl fi387 f397) ?_
                    refine OKS.e ?_
                    refine thenQ_n ?_
                    refine CK.seq ?_
                    refine CK.condT (decT c398.out) ?_
                    refine CK.skip ?_
                    refine thenQ_n ?_
                    refine CK.seq ?_
                    refine CK.block ?_
                    refine CK.seq ?_
                    refine CK.reg (ks := []) (.fl 0 (.fl 1 (.fl 2 (.nil)))) rfl ?_
                    obtain ⟨x400, h401, hm402⟩ := bnd hx384
                    have h403 := sl358.le le389
                    obtain ⟨b404, off405, hA406, hC407⟩ := h403.el (fun _ => rfl) (idx_get h401)
                    refine OKS.r rfl rfl rfl rfl (fun _ => Runs.iaN rfl f396 hA406 fi387 Try.runUnderlying23 Try.sizeOf3 (idx_lt h401)) ?_
                    refine OKS.m rfl rfl rfl rfl (hS390.ldC (f := 0) hC407 (v := .int .i64 x400) rfl rfl Try.isAgg3 rfl) rfl ?_
                    refine OKS.r rfl rfl rfl rfl (fun _ => Runs.as rfl rfl) ?_
                    refine OKS.e ?_
                    refine thenQ_n ?_
                    refine CK.reg (ks := []) (.fl 0 (.fl 1 (.fl 2 (.fl 3 (.nil))))) rfl ?_
                    refine OKS.r rfl rfl rfl rfl (fun _ => Runs.mv rfl f395) ?_
                    refine OKS.r rfl rfl rfl rfl (fun _ => Runs.mv rfl rfl) ?_
                    refine OKS.r rfl rfl rfl rfl (fun _ => Runs.addw rfl rfl rfl) ?_
                    refine OKS.r rfl rfl rfl rfl (fun _ => Runs.as rfl rfl) ?_
                    refine OKS.e ?_
                    refine blockQ_n ?_
                    refine thenQ_n ?_
                    refine CK.reg (ks := []) (.fl 0 (.fl 1 (.nil))) rfl ?_
                    refine OKS.r rfl rfl rfl rfl (fun _ => Runs.to (Runs.addw rfl fi387 rfl) (congrArg (Value.int .i64) hi399.out)) ?_
                    refine OKS.r rfl rfl rfl rfl (fun _ => Runs.mv rfl rfl) ?_
                    refine OKS.e ?_
                    cases hm402
                    exact thenQ_n ⟨rfl, ⟨φ388, rfl, f391, f392, f393, f394, rfl, f396, f397, le389, hS390⟩⟩
                  · rintro σ409 W410 ⟨φ414, fi412, f417, f418, f419, f420, f421, f422, f423, le415, hS416⟩
                    have c424 : Hid (¬ ((↑(((↑x347.length : Int) : Int) - 0).toNat : Int) < (↑x347.length : Int))) := Hid.mk (lp_end0)
                    refine CK.seq ?_
                    refine CK.reg (ks := []) (.fl 0 (.nil)) rfl ?_
                    refine OKS.r rfl rfl rfl rfl (fun _ => Runs.lss rfl fi412 f423) ?_
                    refine OKS.e ?_
                    refine thenQ_n ?_
                    refine CK.seq ?_
                    refine CK.condF (decF c424.out) ?_
                    refine CK.exit ?_
                    refine thenQ_e ?_
                    refine thenQ_e ?_
                    refine blockQ_h ?_
                    refine thenQ_n ?_
                    refine CK.seq ?_
                    refine CK.reg (ks := []) (.fl 0 (.fl 1 (.fl 2 (.fl 3 (.fx 4 (.fl 5 (.fl 6 (.fl 7 (.fx 8 (.fx 9 (.fl 10 (.nil)) .stop) .stop)))) .stop))))) rfl ?_
                    refine OKS.r rfl rfl rfl rfl (fun _ => Runs.mv rfl f418) ?_
                    refine OKS.r rfl rfl rfl rfl (fun _ => Runs.mv rfl f417) ?_
                    refine OKS.r rfl rfl rfl rfl (fun _ => Runs.mv rfl f419) ?_
                    refine OKS.r rfl rfl rfl rfl (fun _ => Runs.mv rfl f420) ?_
                    have h425 := h288.le le292
                    have h426 := h425.le le297
                    have h427 := h426.le le311
                    have h428 := h427.le le415
                    obtain ⟨⟨x429, x430⟩, h431, hm432⟩ := bnd hm376
                    try dsimp only at hm432
                    refine OKS.callH 0 rfl rfl rfl rfl (Enters.mk rfl rfl Try.call28 (mapcons rfl (mapcons rfl (mapcons rfl (mapcons rfl mapnil)))) rfl) hS416 (fun hs => w_target_Between (↑x16.length : Int) x17 A29 c30 x341 (w64 (x341 + x344)) W410 φ414 hs h428 h431) (.inr rfl) ?_
                    rintro φ433 L434 v435 W436 le437 hS438 ⟨rfl, rfl⟩
                    have hS439 : St ⟨w, [], φ⟩ φ433 [.blk b48 134 [.slice A222 y218.length c223, .int .i64 y219, .int .u32 y220], .blk b10 134 [.slice A31 x18.bytes.length c32, .int .i64 x18.next, .int .u32 x18.state]] W436 := hS438
                    refine OKS.r rfl rfl rfl rfl (fun _ => Runs.mv rfl rfl) ?_
                    refine OKS.r rfl rfl rfl rfl (fun _ => Runs.ext rfl rfl (v := .agg #[.int .i64 x429.Lo, .int .i64 x429.Hi]) rfl) ?_
                    refine OKS.r rfl rfl rfl rfl (fun _ => Runs.ext rfl rfl (v := .int .i64 x430) rfl) ?_
                    refine OKS.alloc (cs := [.int .i64 0, .int .i64 0]) rfl rfl rfl rfl rfl Try.zeroValue31 rfl hS439 ?_
                    intro W440 b441 hS442
                    refine OKS.st (j := 0) (vs := [.int .i64 x429.Lo, .int .i64 x429.Hi]) rfl rfl rfl rfl hS442 rfl rfl rfl rfl Try.sizeOf31 (Nat.le_of_ble_eq_true rfl) rfl rfl rfl ?_
                    intro W444 hS445
                    have hS446 : St ⟨w, [], φ⟩ φ433 [.blk b441 31 [.int .i64 x429.Lo, .int .i64 x429.Hi], .blk b48 134 [.slice A222 y218.length c223, .int .i64 y219, .int .u32 y220], .blk b10 134 [.slice A31 x18.bytes.length c32, .int .i64 x18.next, .int .u32 x18.state]] W444 := hS445
                    refine OKS.r rfl rfl rfl rfl (fun _ => Runs.as rfl rfl) ?_
                    refine OKS.e ?_
                    refine thenQ_n ?_
                    refine CK.seq ?_
                    refine CK.seq ?_
                    refine CK.reg (ks := []) (.fl 0 (.fl 1 (.fl 2 (.fl 3 (.fl 4 (.fx 5 (.fl 6 (.fl 7 (.fl 8 (.fl 9 (.fl 10 (.fl 11 (.fl 12 (.fl 13 (.fl 14 (.fl 15 (.fl 16 (.fl 17 (.fl 18 (.fl 19 (.fl 20 (.fl 21 (.fl 22 (.nil)))))))))))))))))) .stop)))))) rfl ?_
                    refine OKS.r rfl rfl rfl rfl (fun _ => Runs.mv rfl rfl) ?_
                    refine OKS.r rfl rfl rfl rfl (fun _ => Runs.neq rfl rfl rfl) ?_
                    refine OKS.r rfl rfl rfl rfl (fun _ => Runs.mv rfl rfl) ?_
                    by_cases c447 : x430 = 0
                    · have hm448 := hm432; rw [if_pos c447] at hm448; replace c447 := Hid.mk c447
                      refine OKS.m rfl rfl rfl (wantedY rfl rfl (decF (fun h => h c447.out))) (hS446.ldBA (j := 0) rfl rfl rfl Try.isAgg31 Try.sizeOf31 (vs := [.int .i64 x429.Lo, .int .i64 x429.Hi]) rfl rfl) rfl ?_
                      refine OKS.r rfl rfl rfl (wantedY rfl rfl (decF (fun h => h c447.out))) (fun _ => Runs.mv rfl f421) ?_
                      obtain ⟨x449, h450, hm451⟩ := bnd hm448
                      refine OKS.callH 0 rfl rfl rfl (wantedY rfl rfl (decF (fun h => h c447.out))) (Enters.mk rfl rfl Try.call43 (mapcons rfl (mapcons rfl mapnil)) rfl) hS446 (fun hs => w_klisterlaw03_has x429 y380 W444 φ433 hs h450) (.inr rfl) ?_
                      rintro φ452 L453 v454 W455 le456 hS457 ⟨rfl, rfl⟩
                      have hS458 : St ⟨w, [], φ⟩ φ452 [.blk b441 31 [.int .i64 x429.Lo, .int .i64 x429.Hi], .blk b48 134 [.slice A222 y218.length c223, .int .i64 y219, .int .u32 y220], .blk b10 134 [.slice A31 x18.bytes.length c32, .int .i64 x18.next, .int .u32 x18.state]] W455 := hS457
                      refine OKS.r rfl rfl rfl (wantedY rfl rfl (decF (fun h => h c447.out))) (fun _ => Runs.notT rfl rfl) ?_
                      refine OKS.r rfl rfl rfl rfl (fun _ => Runs.pickF rfl (decF (fun h => h c447.out)) rfl) ?_
                      refine OKS.r rfl rfl rfl rfl (fun _ => Runs.mv rfl rfl) ?_
                      by_cases c459 : x449 = true
                      · have hm460 := hm451; rw [if_pos c459] at hm460; replace c459 := Hid.mk c459
                        refine OKS.r rfl rfl rfl (wantedY rfl rfl (congrArg (fun b => Value.bool (!b)) c459.out)) (fun _ => Runs.fa rfl rfl Try.runUnderlying31 rfl Try.sizeOf3) ?_
                        refine OKS.m rfl rfl rfl (wantedY rfl rfl (congrArg (fun b => Value.bool (!b)) c459.out)) (hS458.ldB (j := 0) rfl rfl rfl Try.isAgg3 (v := .int .i64 x429.Lo) rfl) rfl ?_
                        refine OKS.r rfl rfl rfl (wantedY rfl rfl (congrArg (fun b => Value.bool (!b)) c459.out)) (fun _ => Runs.lss rfl rfl rfl) ?_
                        refine OKS.r rfl rfl rfl rfl (fun _ => Runs.pickF rfl (congrArg (fun b => Value.bool (!b)) c459.out) rfl) ?_
                        refine OKS.r rfl rfl rfl rfl (fun _ => Runs.mv rfl rfl) ?_
                        by_cases c461 : x429.Lo < 0
                        · have hm462 := hm460; rw [if_pos c461] at hm462; replace c461 := Hid.mk c461
                          refine OKS.p rfl rfl rfl (wantedN rfl rfl (decT c461.out) rfl) ?_
                          refine OKS.p rfl rfl rfl (wantedN rfl rfl (decT c461.out) rfl) ?_
                          refine OKS.p rfl rfl rfl (wantedN rfl rfl (decT c461.out) rfl) ?_
                          refine OKS.p rfl rfl rfl (wantedN rfl rfl (decT c461.out) rfl) ?_
                          refine OKS.p rfl rfl rfl (wantedN rfl rfl (decT c461.out) rfl) ?_
                          refine OKS.p rfl rfl rfl (wantedN rfl rfl (decT c461.out) rfl) ?_
                          refine OKS.p rfl rfl rfl (wantedN rfl rfl (decT c461.out) rfl) ?_
                          refine OKS.p rfl rfl rfl (wantedN rfl rfl (decT c461.out) rfl) ?_
                          refine OKS.r rfl rfl rfl rfl (fun _ => Runs.pickT rfl (decT c461.out) rfl) ?_
                          refine OKS.e ?_
                          refine thenQ_n ?_
                          refine CK.condT rfl ?_
                          refine CK.seq ?_
                          refine CK.reg (ks := []) (.fl 0 (.nil)) rfl ?_
                          refine OKS.r rfl rfl rfl rfl (fun _ => Runs.as rfl rfl) ?_
                          refine OKS.e ?_
                          refine thenQ_n ?_
                          refine CK.ret ?_
                          refine thenQ_r ?_
                          cases hm462
                          exact ⟨rfl, _, (res1 rfl), φ452, _, (hS458.pick [] _ (by decide) rfl), rfl, rfl⟩
                        · have hm463 := hm460; rw [if_neg c461] at hm463; replace c461 := Hid.mk c461
                          refine OKS.r rfl rfl rfl (wantedY rfl rfl (decF c461.out)) (fun _ => Runs.fa rfl rfl Try.runUnderlying31 rfl Try.sizeOf3) ?_
                          refine OKS.m rfl rfl rfl (wantedY rfl rfl (decF c461.out)) (hS458.ldB (j := 0) rfl rfl rfl Try.isAgg3 (v := .int .i64 x429.Hi) rfl) rfl ?_
                          refine OKS.r rfl rfl rfl (wantedY rfl rfl (decF c461.out)) (fun _ => Runs.mv rfl f420) ?_
                          refine OKS.r rfl rfl rfl (wantedY rfl rfl (decF c461.out)) (fun _ => Runs.mv rfl f419) ?_
                          refine OKS.r rfl rfl rfl (wantedY rfl rfl (decF c461.out)) (fun _ => Runs.subw rfl rfl rfl) ?_
                          refine OKS.r rfl rfl rfl (wantedY rfl rfl (decF c461.out)) (fun _ => Runs.addw rfl rfl rfl) ?_
                          refine OKS.r rfl rfl rfl (wantedY rfl rfl (decF c461.out)) (fun _ => Runs.mulw rfl rfl rfl) ?_
                          refine OKS.r rfl rfl rfl (wantedY rfl rfl (decF c461.out)) (fun _ => Runs.gtr rfl rfl rfl) ?_
                          refine OKS.r rfl rfl rfl rfl (fun _ => Runs.pickF rfl (decF c461.out) rfl) ?_
                          refine OKS.e ?_
                          refine thenQ_n ?_
                          by_cases c464 : (w64 (9 * (w64 ((w64 ((w64 (x341 + x344)) - x341)) + 1)))) < x429.Hi
                          · have hm465 := hm463; rw [if_pos c464] at hm465; replace c464 := Hid.mk c464
                            refine CK.condT (decT c464.out) ?_
                            refine CK.seq ?_
                            refine CK.reg (ks := []) (.fl 0 (.nil)) rfl ?_
                            refine OKS.r rfl rfl rfl rfl (fun _ => Runs.as rfl rfl) ?_
                            refine OKS.e ?_
                            refine thenQ_n ?_
                            refine CK.ret ?_
                            refine thenQ_r ?_
                            cases hm465
                            exact ⟨rfl, _, (res1 rfl), φ452, _, (hS458.pick [] _ (by decide) rfl), rfl, rfl⟩
                          · have hm466 := hm463; rw [if_neg c464] at hm466; replace c464 := Hid.mk c464
                            refine CK.condF (decF c464.out) ?_
                            refine CK.skip ?_
                            refine thenQ_n ?_
                            refine CK.seq ?_
                            refine CK.seq ?_
                            refine CK.reg (ks := []) (.fl 0 (.fl 1 (.fl 2 (.fl 3 (.fl 4 (.nil)))))) rfl ?_
                            refine OKS.r rfl rfl rfl rfl (fun _ => Runs.fa rfl rfl Try.runUnderlying31 rfl Try.sizeOf3) ?_
                            refine OKS.m rfl rfl rfl rfl (hS458.ldB (j := 0) rfl rfl rfl Try.isAgg3 (v := .int .i64 x429.Lo) rfl) rfl ?_
                            refine OKS.r rfl rfl rfl rfl (fun _ => Runs.subw rfl rfl rfl) ?_
                            refine OKS.r rfl rfl rfl rfl (fun _ => Runs.max rfl rfl rfl) ?_
                            refine OKS.r rfl rfl rfl rfl (fun _ => Runs.as rfl rfl) ?_
                            refine OKS.e ?_
                            refine thenQ_n ?_
                            refine CK.block ?_
                            refine CK.iter (fun x470 σ_ w_ => ∃ (φ_ : PHeap), σ_ 10 = .slice A29 x17.length c30 ∧ σ_ 11 = .int .i64 (↑x16.length : Int) ∧ σ_ 23 = .int .i64 x341 ∧ σ_ 24 = .int .i64 (w64 (x341 + x344)) ∧ σ_ 28 = .pointer (some ⟨b441, 0, none⟩) ∧ σ_ 29 = .int .i64 x470 ∧ PHeap.Le φ452 φ_ ∧ St ⟨w, [], φ⟩ φ_ [.blk b441 31 [.int .i64 x429.Lo, .int .i64 x429.Hi], .blk b48 134 [.slice A222 y218.length c223, .int .i64 y219, .int .u32 y220], .blk b10 134 [.slice A31 x18.bytes.length c32, .int .i64 x18.next, .int .u32 x18.state]] w_) hm466 ?_ ?_
                            · exact ⟨φ452, f417, f418, f419, f420, rfl, rfl, (PHeap.Le.refl _), hS458⟩
                            · rintro x470 xx473 σ471 W472 ⟨φ478, f481, f482, f483, f484, f485, f486, le479, hS480⟩ hx474 hb475
                              refine CK.seq ?_
                              refine CK.seq ?_
                              refine CK.reg (ks := []) (.fl 0 (.fl 1 (.fl 2 (.fl 3 (.fl 4 (.fl 5 (.nil))))))) rfl ?_
                              refine OKS.r rfl rfl rfl rfl (fun _ => Runs.mv rfl f486) ?_
                              refine OKS.r rfl rfl rfl rfl (fun _ => Runs.fa rfl f485 Try.runUnderlying31 rfl Try.sizeOf3) ?_
                              refine OKS.m rfl rfl rfl rfl (hS480.ldB (j := 0) rfl rfl rfl Try.isAgg3 (v := .int .i64 x429.Hi) rfl) rfl ?_
                              refine OKS.r rfl rfl rfl rfl (fun _ => Runs.addw rfl rfl rfl) ?_
                              refine OKS.r rfl rfl rfl rfl (fun _ => Runs.min rfl rfl rfl) ?_
                              refine OKS.r rfl rfl rfl rfl (fun _ => Runs.leq rfl rfl rfl) ?_
                              refine OKS.e ?_
                              refine thenQ_n ?_
                              by_cases c487 : x470 ≤ (min 72 (w64 (x429.Hi + 1)))
                              · have hm488 := hx474; rw [if_pos c487] at hm488; replace c487 := Hid.mk c487
                                refine CK.condT (decT c487.out) ?_
                                refine CK.skip ?_
                                refine thenQ_n ?_
                                refine CK.seq ?_
                                refine CK.block ?_
                                refine CK.seq ?_
                                refine CK.reg (ks := []) (.fl 0 (.fx 1 (.fl 2 (.fl 3 (.fl 4 (.fl 5 (.fx 6 (.fl 7 (.fx 8 (.fx 9 (.fl 10 (.nil)) .stop) .stop)) .stop))))) .stop)) rfl ?_
                                refine OKS.r rfl rfl rfl rfl (fun _ => Runs.mv rfl f481) ?_
                                have h489 := h428.le le437
                                have h490 := h489.le le456
                                have h491 := h490.le le479
                                obtain ⟨x492, h493, hm494⟩ := bnd hm488
                                refine OKS.callH 0 rfl rfl rfl rfl (Enters.mk rfl rfl Try.call16 (mapcons rfl mapnil) rfl) hS480 (fun hs => w_klisterkit_Clone_target_Sheet x17 A29 c30 W472 φ478 hs h491 h493) (.inr rfl) ?_
                                rintro φ495 L496 v497 W498 le499 hS500 ⟨A501, c502, rfl, rfl⟩
                                have hS504 : St ⟨w, [], φ⟩ φ495 [.row A501 c502 33 4 (List.flatMap encT_target_Sheet x492), .blk b441 31 [.int .i64 x429.Lo, .int .i64 x429.Hi], .blk b48 134 [.slice A222 y218.length c223, .int .i64 y219, .int .u32 y220], .blk b10 134 [.slice A31 x18.bytes.length c32, .int .i64 x18.next, .int .u32 x18.state]] W498 := hS500
                                refine OKS.r rfl rfl rfl rfl (fun _ => Runs.mv rfl f483) ?_
                                refine OKS.r rfl rfl rfl rfl (fun _ => Runs.mv rfl f484) ?_
                                refine OKS.r rfl rfl rfl rfl (fun _ => Runs.mv rfl f486) ?_
                                refine OKS.r rfl rfl rfl rfl (fun _ => Runs.mv rfl f486) ?_
                                obtain ⟨x505, h506, hm507⟩ := bnd hm494
                                refine OKS.callH 0 rfl rfl rfl rfl (Enters.mk rfl rfl Try.call17 (mapcons rfl (mapcons rfl mapnil)) rfl) hS504 (fun hs => w_klisterlaw03_span x470 x470 W498 φ495 hs h506) (.inr rfl) ?_
                                rintro φ508 L509 v510 W511 le512 hS513 ⟨rfl, rfl⟩
                                have hS514 : St ⟨w, [], φ⟩ φ508 [.row A501 c502 33 4 (List.flatMap encT_target_Sheet x492), .blk b441 31 [.int .i64 x429.Lo, .int .i64 x429.Hi], .blk b48 134 [.slice A222 y218.length c223, .int .i64 y219, .int .u32 y220], .blk b10 134 [.slice A31 x18.bytes.length c32, .int .i64 x18.next, .int .u32 x18.state]] W511 := hS513
                                refine OKS.r rfl rfl rfl rfl (fun _ => Runs.build (pv := [(0, .int .i64 x341), (1, .int .i64 (w64 (x341 + x344))), (2, .agg #[.int .i64 x505.Lo, .int .i64 x505.Hi])]) (z := [.int .i64 0, .int .i64 0, .int .i64 0, .int .i64 0]) (cs := [.int .i64 x341, .int .i64 (w64 (x341 + x344)), .int .i64 x505.Lo, .int .i64 x505.Hi]) rfl (mapcons2 rfl (mapcons2 rfl (mapcons2 rfl mapnil2))) Try.zeroValue33 places33 rfl rfl) ?_
                                refine OKS.buildSlice (pv := [(0, .agg #[.int .i64 x341, .int .i64 (w64 (x341 + x344)), .int .i64 x505.Lo, .int .i64 x505.Hi])]) (zs := [.int .i64 0, .int .i64 0, .int .i64 0, .int .i64 0]) (cs := [.int .i64 x341, .int .i64 (w64 (x341 + x344)), .int .i64 x505.Lo, .int .i64 x505.Hi]) rfl rfl rfl rfl rfl (mapcons2 rfl mapnil2) Try.runUnderlying24 Try.sizeOf33 Try.zeroValue33 rfl rfl rfl rfl rfl hS514 ?_
                                intro W515 b516 hS517
                                have hS519 : St ⟨w, [], φ⟩ φ508 [.row (some ⟨b516, 0, none⟩) 1 33 4 (List.flatMap encT_target_Sheet [(⟨x341, w64 (x341 + x344), x505⟩ : T_target_Sheet)]), .row A501 c502 33 4 (List.flatMap encT_target_Sheet x492), .blk b441 31 [.int .i64 x429.Lo, .int .i64 x429.Hi], .blk b48 134 [.slice A222 y218.length c223, .int .i64 y219, .int .u32 y220], .blk b10 134 [.slice A31 x18.bytes.length c32, .int .i64 x18.next, .int .u32 x18.state]] W515 := hS517
                                obtain ⟨x520, h521, hm522⟩ := bnd hm507
                                refine OKS.append (j := 1) (enc := encT_target_Sheet) (xs := x492) (ys := [(⟨x341, w64 (x341 + x344), x505⟩ : T_target_Sheet)]) (zs := x520) rfl rfl rfl rfl rfl Try.underlying24 info33 rfl rfl rfl rfl rfl rfl hS519 rfl rfl rfl (hS519.srcR (j := 0) rfl (by decide) (flatMap_len (f := encT_target_Sheet) (sz := 4) (fun _ => rfl) [(⟨x341, w64 (x341 + x344), x505⟩ : T_target_Sheet)])) (fun _ => rfl) (fun _ => rfl) h521 rfl ?_
                                intro A523 c524 W525 hS526
                                have hS527 : St ⟨w, [], φ⟩ φ508 [.row (some ⟨b516, 0, none⟩) 1 33 4 (List.flatMap encT_target_Sheet [(⟨x341, w64 (x341 + x344), x505⟩ : T_target_Sheet)]), .row A523 c524 33 4 (List.flatMap encT_target_Sheet x520), .blk b441 31 [.int .i64 x429.Lo, .int .i64 x429.Hi], .blk b48 134 [.slice A222 y218.length c223, .int .i64 y219, .int .u32 y220], .blk b10 134 [.slice A31 x18.bytes.length c32, .int .i64 x18.next, .int .u32 x18.state]] W525 := hS526
                                refine OKS.r rfl rfl rfl rfl (fun _ => Runs.as rfl rfl) ?_
                                refine OKS.e ?_
                                refine thenQ_n ?_
                                refine CK.seq ?_
                                refine CK.reg (ks := []) (.fl 0 (.fl 1 (.fx 2 (.fl 3 (.fl 4 (.fl 5 (.fl 6 (.fl 7 (.nil)))))) .stop))) rfl ?_
                                refine OKS.r rfl rfl rfl rfl (fun _ => Runs.mv rfl f482) ?_
                                refine OKS.r rfl rfl rfl rfl (fun _ => Runs.mv rfl rfl) ?_
                                obtain ⟨φ528, le529, hs530, hS531⟩ := hS527.freezeR (k := 1) (n := x520.length) rfl (flatMap_len (f := encT_target_Sheet) (sz := 4) (fun _ => rfl) x520) (by decide)
                                have hS532 : St ⟨w, [], φ⟩ φ528 [.row (some ⟨b516, 0, none⟩) 1 33 4 (List.flatMap encT_target_Sheet [(⟨x341, w64 (x341 + x344), x505⟩ : T_target_Sheet)]), .blk b441 31 [.int .i64 x429.Lo, .int .i64 x429.Hi], .blk b48 134 [.slice A222 y218.length c223, .int .i64 y219, .int .u32 y220], .blk b10 134 [.slice A31 x18.bytes.length c32, .int .i64 x18.next, .int .u32 x18.state]] W525 := hS531
                                obtain ⟨⟨x533, x534⟩, h535, hm536⟩ := bnd hm522
                                try dsimp only at hm536
                                refine OKS.callH 0 rfl rfl rfl rfl (Enters.mk rfl rfl Try.call21 (mapcons rfl (mapcons rfl mapnil)) rfl) hS532 (fun hs => w_target_Skied (↑x16.length : Int) x520 A523 c524 W525 φ528 hs hs530 h535) (.inr rfl) ?_
                                rintro φ537 L538 v539 W540 le541 hS542 ⟨A543, c544, rfl, rfl⟩
                                have hS546 : St ⟨w, [], φ⟩ φ537 [.row A543 c544 31 2 (List.flatMap encT_api_Span x533), .row (some ⟨b516, 0, none⟩) 1 33 4 (List.flatMap encT_target_Sheet [(⟨x341, w64 (x341 + x344), x505⟩ : T_target_Sheet)]), .blk b441 31 [.int .i64 x429.Lo, .int .i64 x429.Hi], .blk b48 134 [.slice A222 y218.length c223, .int .i64 y219, .int .u32 y220], .blk b10 134 [.slice A31 x18.bytes.length c32, .int .i64 x18.next, .int .u32 x18.state]] W540 := hS542
                                refine OKS.r rfl rfl rfl rfl (fun _ => Runs.mv rfl rfl) ?_
                                refine OKS.r rfl rfl rfl rfl (fun _ => Runs.ext rfl rfl (v := .slice A543 x533.length c544) rfl) ?_
                                refine OKS.r rfl rfl rfl rfl (fun _ => Runs.ext rfl rfl (v := .int .i64 x534) rfl) ?_
                                refine OKS.r rfl rfl rfl rfl (fun _ => Runs.as rfl rfl) ?_
                                refine OKS.r rfl rfl rfl rfl (fun _ => Runs.as rfl rfl) ?_
                                refine OKS.e ?_
                                refine thenQ_n ?_
                                refine CK.seq ?_
                                refine CK.reg (ks := []) (.fl 0 (.fl 1 (.fl 2 (.fl 3 (.fl 4 (.fl 5 (.fl 6 (.fl 7 (.fl 8 (.fl 9 (.fl 10 (.fx 11 (.fl 12 (.fl 13 (.nil))) .stop)))))))))))) rfl ?_
                                refine OKS.r rfl rfl rfl rfl (fun _ => Runs.mv rfl rfl) ?_
                                refine OKS.r rfl rfl rfl rfl (fun _ => Runs.neq rfl rfl rfl) ?_
                                refine OKS.r rfl rfl rfl rfl (fun _ => Runs.mv rfl rfl) ?_
                                by_cases c547 : x534 = 0
                                · have hm548 := hm536; rw [if_pos c547] at hm548; replace c547 := Hid.mk c547
                                  refine OKS.p rfl rfl rfl (wantedN rfl rfl (decF (fun h => h c547.out)) rfl) ?_
                                  refine OKS.p rfl rfl rfl (wantedN rfl rfl (decF (fun h => h c547.out)) rfl) ?_
                                  refine OKS.r rfl rfl rfl rfl (fun _ => Runs.pickF rfl (decF (fun h => h c547.out)) rfl) ?_
                                  refine OKS.r rfl rfl rfl rfl (fun _ => Runs.mv rfl rfl) ?_
                                  refine OKS.r rfl rfl rfl (wantedY rfl rfl rfl) (fun _ => Runs.mv rfl rfl) ?_
                                  refine OKS.r rfl rfl rfl (wantedY rfl rfl rfl) (fun _ => Runs.eql rfl rfl rfl) ?_
                                  refine OKS.m rfl rfl rfl (wantedY rfl rfl rfl) (hS546.ldBA (j := 2) rfl rfl f485 Try.isAgg31 Try.sizeOf31 (vs := [.int .i64 x429.Lo, .int .i64 x429.Hi]) rfl rfl) rfl ?_
                                  refine OKS.r rfl rfl rfl (wantedY rfl rfl rfl) (fun _ => Runs.mv rfl f486) ?_
                                  obtain ⟨x549, h550, hm551⟩ := bnd hm548
                                  refine OKS.callH 0 rfl rfl rfl (wantedY rfl rfl rfl) (Enters.mk rfl rfl Try.call43 (mapcons rfl (mapcons rfl mapnil)) rfl) hS546 (fun hs => w_klisterlaw03_has x429 x470 W540 φ537 hs h550) (.inr rfl) ?_
                                  rintro φ552 L553 v554 W555 le556 hS557 ⟨rfl, rfl⟩
                                  have hS558 : St ⟨w, [], φ⟩ φ552 [.row A543 c544 31 2 (List.flatMap encT_api_Span x533), .row (some ⟨b516, 0, none⟩) 1 33 4 (List.flatMap encT_target_Sheet [(⟨x341, w64 (x341 + x344), x505⟩ : T_target_Sheet)]), .blk b441 31 [.int .i64 x429.Lo, .int .i64 x429.Hi], .blk b48 134 [.slice A222 y218.length c223, .int .i64 y219, .int .u32 y220], .blk b10 134 [.slice A31 x18.bytes.length c32, .int .i64 x18.next, .int .u32 x18.state]] W555 := hS557
                                  refine OKS.r rfl rfl rfl (wantedY rfl rfl rfl) (fun _ => Runs.neB rfl rfl rfl Try.runUnderlying4) ?_
                                  refine OKS.r rfl rfl rfl rfl (fun _ => Runs.pickF rfl rfl rfl) ?_
                                  refine OKS.e ?_
                                  refine thenQ_n ?_
                                  by_cases c559 : ((decide (x534 = 0)) == x549) = true
                                  · have hm560 := hm551; rw [if_pos c559] at hm560; replace c559 := Hid.mk c559
                                    refine CK.condF (congrArg (fun b => Value.bool (!b)) c559.out) ?_
                                    refine CK.skip ?_
                                    refine blockQ_n ?_
                                    refine thenQ_n ?_
                                    refine CK.reg (ks := []) (.fl 0 (.fl 1 (.fl 2 (.nil)))) rfl ?_
                                    refine OKS.r rfl rfl rfl rfl (fun _ => Runs.mv rfl f486) ?_
                                    refine OKS.r rfl rfl rfl rfl (fun _ => Runs.addw rfl rfl rfl) ?_
                                    refine OKS.r rfl rfl rfl rfl (fun _ => Runs.as rfl rfl) ?_
                                    refine OKS.e ?_
                                    obtain rfl := Option.some.inj hm560
                                    exact thenQ_n ⟨rfl, _, rfl, ⟨φ552, f481, f482, f483, f484, f485, rfl, (((((le479.trans le499).trans le512).trans le529).trans le541).trans le556), (hS558.pick [2, 3, 4] _ (by decide) rfl)⟩⟩
                                  · have hm562 := hm551; rw [if_neg c559] at hm562; replace c559 := Hid.mk c559
                                    refine CK.condT (congrArg (fun b => Value.bool (!b)) (Bool.eq_false_iff.2 c559.out)) ?_
                                    refine CK.seq ?_
                                    refine CK.reg (ks := []) (.fl 0 (.nil)) rfl ?_
                                    refine OKS.r rfl rfl rfl rfl (fun _ => Runs.as rfl rfl) ?_
                                    refine OKS.e ?_
                                    refine thenQ_n ?_
                                    refine CK.ret ?_
                                    refine blockQ_r ?_
                                    refine thenQ_r ?_
                                    obtain ⟨v563, hm564, e565⟩ := esc_spec hm562
                                    obtain rfl := hb475 v563 e565
                                    refine thenQ_r ?_
                                    refine blockQ_r ?_
                                    refine thenQ_r ?_
                                    cases hm564
                                    exact ⟨rfl, _, (res1 rfl), φ552, _, (hS558.pick [] _ (by decide) rfl), rfl, rfl⟩
                                · have hm566 := hm536; rw [if_neg c547] at hm566; replace c547 := Hid.mk c547
                                  refine OKS.r rfl rfl rfl (wantedY rfl rfl (decT c547.out)) (fun _ => Runs.mv rfl rfl) ?_
                                  refine OKS.r rfl rfl rfl (wantedY rfl rfl (decT c547.out)) (fun _ => Runs.neq rfl rfl rfl) ?_
                                  refine OKS.r rfl rfl rfl rfl (fun _ => Runs.pickT rfl (decT c547.out) rfl) ?_
                                  refine OKS.r rfl rfl rfl rfl (fun _ => Runs.mv rfl rfl) ?_
                                  by_cases c567 : x534 = 7
                                  · have hm568 := hm566; rw [if_pos c567] at hm568; replace c567 := Hid.mk c567
                                    refine OKS.r rfl rfl rfl (wantedY rfl rfl (decF (fun h => h c567.out))) (fun _ => Runs.mv rfl rfl) ?_
                                    refine OKS.r rfl rfl rfl (wantedY rfl rfl (decF (fun h => h c567.out))) (fun _ => Runs.eql rfl rfl rfl) ?_
                                    refine OKS.m rfl rfl rfl (wantedY rfl rfl (decF (fun h => h c567.out))) (hS546.ldBA (j := 2) rfl rfl f485 Try.isAgg31 Try.sizeOf31 (vs := [.int .i64 x429.Lo, .int .i64 x429.Hi]) rfl rfl) rfl ?_
                                    refine OKS.r rfl rfl rfl (wantedY rfl rfl (decF (fun h => h c567.out))) (fun _ => Runs.mv rfl f486) ?_
                                    obtain ⟨x569, h570, hm571⟩ := bnd hm568
                                    refine OKS.callH 0 rfl rfl rfl (wantedY rfl rfl (decF (fun h => h c567.out))) (Enters.mk rfl rfl Try.call43 (mapcons rfl (mapcons rfl mapnil)) rfl) hS546 (fun hs => w_klisterlaw03_has x429 x470 W540 φ537 hs h570) (.inr rfl) ?_
                                    rintro φ572 L573 v574 W575 le576 hS577 ⟨rfl, rfl⟩
                                    have hS578 : St ⟨w, [], φ⟩ φ572 [.row A543 c544 31 2 (List.flatMap encT_api_Span x533), .row (some ⟨b516, 0, none⟩) 1 33 4 (List.flatMap encT_target_Sheet [(⟨x341, w64 (x341 + x344), x505⟩ : T_target_Sheet)]), .blk b441 31 [.int .i64 x429.Lo, .int .i64 x429.Hi], .blk b48 134 [.slice A222 y218.length c223, .int .i64 y219, .int .u32 y220], .blk b10 134 [.slice A31 x18.bytes.length c32, .int .i64 x18.next, .int .u32 x18.state]] W575 := hS577
                                    refine OKS.r rfl rfl rfl (wantedY rfl rfl (decF (fun h => h c567.out))) (fun _ => Runs.neB rfl rfl rfl Try.runUnderlying4) ?_
                                    refine OKS.r rfl rfl rfl rfl (fun _ => Runs.pickF rfl (decF (fun h => h c567.out)) rfl) ?_
                                    refine OKS.e ?_
                                    refine thenQ_n ?_
                                    by_cases c579 : ((decide (x534 = 0)) == x569) = true
                                    · have hm580 := hm571; rw [if_pos c579] at hm580; replace c579 := Hid.mk c579
                                      refine CK.condF (congrArg (fun b => Value.bool (!b)) c579.out) ?_
                                      refine CK.skip ?_
                                      refine blockQ_n ?_
                                      refine thenQ_n ?_
                                      refine CK.reg (ks := []) (.fl 0 (.fl 1 (.fl 2 (.nil)))) rfl ?_
                                      refine OKS.r rfl rfl rfl rfl (fun _ => Runs.mv rfl f486) ?_
                                      refine OKS.r rfl rfl rfl rfl (fun _ => Runs.addw rfl rfl rfl) ?_
                                      refine OKS.r rfl rfl rfl rfl (fun _ => Runs.as rfl rfl) ?_
                                      refine OKS.e ?_
                                      obtain rfl := Option.some.inj hm580
                                      exact thenQ_n ⟨rfl, _, rfl, ⟨φ572, f481, f482, f483, f484, f485, rfl, (((((le479.trans le499).trans le512).trans le529).trans le541).trans le576), (hS578.pick [2, 3, 4] _ (by decide) rfl)⟩⟩
                                    · have hm582 := hm571; rw [if_neg c579] at hm582; replace c579 := Hid.mk c579
                                      refine CK.condT (congrArg (fun b => Value.bool (!b)) (Bool.eq_false_iff.2 c579.out)) ?_
                                      refine CK.seq ?_
                                      refine CK.reg (ks := []) (.fl 0 (.nil)) rfl ?_
                                      refine OKS.r rfl rfl rfl rfl (fun _ => Runs.as rfl rfl) ?_
                                      refine OKS.e ?_
                                      refine thenQ_n ?_
                                      refine CK.ret ?_
                                      refine blockQ_r ?_
                                      refine thenQ_r ?_
                                      obtain ⟨v583, hm584, e585⟩ := esc_spec hm582
                                      obtain rfl := hb475 v583 e585
                                      refine thenQ_r ?_
                                      refine blockQ_r ?_
                                      refine thenQ_r ?_
                                      cases hm584
                                      exact ⟨rfl, _, (res1 rfl), φ572, _, (hS578.pick [] _ (by decide) rfl), rfl, rfl⟩
                                  · have hm586 := hm566; rw [if_neg c567] at hm586; replace c567 := Hid.mk c567
                                    refine OKS.p rfl rfl rfl (wantedN rfl rfl (decT c567.out) rfl) ?_
                                    refine OKS.p rfl rfl rfl (wantedN rfl rfl (decT c567.out) rfl) ?_
                                    refine OKS.p rfl rfl rfl (wantedN rfl rfl (decT c567.out) rfl) ?_
                                    refine OKS.p rfl rfl rfl (wantedN rfl rfl (decT c567.out) rfl) ?_
                                    refine OKS.px rfl rfl rfl (wantedN rfl rfl (decT c567.out) rfl) ?_
                                    refine OKS.p rfl rfl rfl (wantedN rfl rfl (decT c567.out) rfl) ?_
                                    refine OKS.r rfl rfl rfl rfl (fun _ => Runs.pickT rfl (decT c567.out) rfl) ?_
                                    refine OKS.e ?_
                                    refine thenQ_n ?_
                                    refine CK.condT rfl ?_
                                    refine CK.seq ?_
                                    refine CK.reg (ks := []) (.fl 0 (.nil)) rfl ?_
                                    refine OKS.r rfl rfl rfl rfl (fun _ => Runs.as rfl rfl) ?_
                                    refine OKS.e ?_
                                    refine thenQ_n ?_
                                    refine CK.ret ?_
                                    refine blockQ_r ?_
                                    refine thenQ_r ?_
                                    obtain ⟨v587, hm588, e589⟩ := esc_spec hm586
                                    obtain rfl := hb475 v587 e589
                                    refine thenQ_r ?_
                                    refine blockQ_r ?_
                                    refine thenQ_r ?_
                                    cases hm588
                                    exact ⟨rfl, _, (res1 rfl), φ537, _, (hS546.pick [] _ (by decide) rfl), rfl, rfl⟩
                              · have hm590 := hx474; rw [if_neg c487] at hm590; replace c487 := Hid.mk c487
                                refine CK.condF (decF c487.out) ?_
                                refine CK.exit ?_
                                refine thenQ_e ?_
                                obtain ⟨v591, hm592, e593⟩ := esc_spec hm590
                                obtain rfl := hb475 v591 e593
                                refine thenQ_e ?_
                                refine blockQ_h ?_
                                refine thenQ_n ?_
                                refine CK.seq ?_
                                refine CK.reg (ks := []) (.fx 0 (.fl 1 (.nil)) .stop) rfl ?_
                                obtain ⟨x594, h595, hm596⟩ := bnd hm592
                                refine OKS.callH 0 rfl rfl rfl rfl (Enters.mk rfl rfl Try.call24 mapnil rfl) hS480 (fun hs => w_klisterlaw03_awake W472 φ478 hs h595) (.inr rfl) ?_
                                rintro φ597 L598 v599 W600 le601 hS602 ⟨rfl, rfl⟩
                                have hS603 : St ⟨w, [], φ⟩ φ597 [.blk b441 31 [.int .i64 x429.Lo, .int .i64 x429.Hi], .blk b48 134 [.slice A222 y218.length c223, .int .i64 y219, .int .u32 y220], .blk b10 134 [.slice A31 x18.bytes.length c32, .int .i64 x18.next, .int .u32 x18.state]] W600 := hS602
                                refine OKS.r rfl rfl rfl rfl (fun _ => Runs.as rfl rfl) ?_
                                refine OKS.e ?_
                                refine thenQ_n ?_
                                refine CK.ret ?_
                                cases hm596
                                exact ⟨rfl, _, (res1 rfl), φ597, _, (hS603.pick [] _ (by decide) rfl), rfl, rfl⟩
                      · have hm604 := hm451; rw [if_neg c459] at hm604; replace c459 := Hid.mk c459
                        refine OKS.p rfl rfl rfl (wantedN rfl rfl (congrArg (fun b => Value.bool (!b)) (Bool.eq_false_iff.2 c459.out)) rfl) ?_
                        refine OKS.p rfl rfl rfl (wantedN rfl rfl (congrArg (fun b => Value.bool (!b)) (Bool.eq_false_iff.2 c459.out)) rfl) ?_
                        refine OKS.p rfl rfl rfl (wantedN rfl rfl (congrArg (fun b => Value.bool (!b)) (Bool.eq_false_iff.2 c459.out)) rfl) ?_
                        refine OKS.r rfl rfl rfl rfl (fun _ => Runs.pickT rfl (congrArg (fun b => Value.bool (!b)) (Bool.eq_false_iff.2 c459.out)) rfl) ?_
                        refine OKS.r rfl rfl rfl rfl (fun _ => Runs.mv rfl rfl) ?_
                        refine OKS.p rfl rfl rfl (wantedN rfl rfl rfl rfl) ?_
                        refine OKS.p rfl rfl rfl (wantedN rfl rfl rfl rfl) ?_
                        refine OKS.p rfl rfl rfl (wantedN rfl rfl rfl rfl) ?_
                        refine OKS.p rfl rfl rfl (wantedN rfl rfl rfl rfl) ?_
                        refine OKS.p rfl rfl rfl (wantedN rfl rfl rfl rfl) ?_
                        refine OKS.p rfl rfl rfl (wantedN rfl rfl rfl rfl) ?_
                        refine OKS.p rfl rfl rfl (wantedN rfl rfl rfl rfl) ?_
                        refine OKS.p rfl rfl rfl (wantedN rfl rfl rfl rfl) ?_
                        refine OKS.r rfl rfl rfl rfl (fun _ => Runs.pickT rfl rfl rfl) ?_
                        refine OKS.e ?_
                        refine thenQ_n ?_
                        refine CK.condT rfl ?_
                        refine CK.seq ?_
                        refine CK.reg (ks := []) (.fl 0 (.nil)) rfl ?_
                        refine OKS.r rfl rfl rfl rfl (fun _ => Runs.as rfl rfl) ?_
                        refine OKS.e ?_
                        refine thenQ_n ?_
                        refine CK.ret ?_
                        refine thenQ_r ?_
                        cases hm604
                        exact ⟨rfl, _, (res1 rfl), φ452, _, (hS458.pick [] _ (by decide) rfl), rfl, rfl⟩
                    · have hm605 := hm432; rw [if_neg c447] at hm605; replace c447 := Hid.mk c447
                      refine OKS.p rfl rfl rfl (wantedN rfl rfl (decT c447.out) rfl) ?_
                      refine OKS.p rfl rfl rfl (wantedN rfl rfl (decT c447.out) rfl) ?_
                      refine OKS.px rfl rfl rfl (wantedN rfl rfl (decT c447.out) rfl) ?_
                      refine OKS.p rfl rfl rfl (wantedN rfl rfl (decT c447.out) rfl) ?_
                      refine OKS.r rfl rfl rfl rfl (fun _ => Runs.pickT rfl (decT c447.out) rfl) ?_
                      refine OKS.r rfl rfl rfl rfl (fun _ => Runs.mv rfl rfl) ?_
                      refine OKS.p rfl rfl rfl (wantedN rfl rfl rfl rfl) ?_
                      refine OKS.p rfl rfl rfl (wantedN rfl rfl rfl rfl) ?_
                      refine OKS.p rfl rfl rfl (wantedN rfl rfl rfl rfl) ?_
                      refine OKS.r rfl rfl rfl rfl (fun _ => Runs.pickT rfl rfl rfl) ?_
                      refine OKS.r rfl rfl rfl rfl (fun _ => Runs.mv rfl rfl) ?_
                      refine OKS.p rfl rfl rfl (wantedN rfl rfl rfl rfl) ?_
                      refine OKS.p rfl rfl rfl (wantedN rfl rfl rfl rfl) ?_
                      refine OKS.p rfl rfl rfl (wantedN rfl rfl rfl rfl) ?_
                      refine OKS.p rfl rfl rfl (wantedN rfl rfl rfl rfl) ?_
                      refine OKS.p rfl rfl rfl (wantedN rfl rfl rfl rfl) ?_
                      refine OKS.p rfl rfl rfl (wantedN rfl rfl rfl rfl) ?_
                      refine OKS.p rfl rfl rfl (wantedN rfl rfl rfl rfl) ?_
                      refine OKS.p rfl rfl rfl (wantedN rfl rfl rfl rfl) ?_
                      refine OKS.r rfl rfl rfl rfl (fun _ => Runs.pickT rfl rfl rfl) ?_
                      refine OKS.e ?_
                      refine thenQ_n ?_
                      refine CK.condT rfl ?_
                      refine CK.seq ?_
                      refine CK.reg (ks := []) (.fl 0 (.nil)) rfl ?_
                      refine OKS.r rfl rfl rfl rfl (fun _ => Runs.as rfl rfl) ?_
                      refine OKS.e ?_
                      refine thenQ_n ?_
                      refine CK.ret ?_
                      refine thenQ_r ?_
                      cases hm605
                      exact ⟨rfl, _, (res1 rfl), φ433, _, (hS446.pick [] _ (by decide) rfl), rfl, rfl⟩
              · have hm606 := hm335; rw [if_neg c336] at hm606; replace c336 := Hid.mk c336
                refine OKS.p rfl rfl rfl (wantedN rfl rfl (decT c336.out) rfl) ?_
                refine OKS.p rfl rfl rfl (wantedN rfl rfl (decT c336.out) rfl) ?_
                refine OKS.p rfl rfl rfl (wantedN rfl rfl (decT c336.out) rfl) ?_
                refine OKS.r rfl rfl rfl rfl (fun _ => Runs.pickT rfl (decT c336.out) rfl) ?_
                refine OKS.e ?_
                refine thenQ_n ?_
                refine CK.condT rfl ?_
                refine CK.seq ?_
                refine CK.reg (ks := []) (.fl 0 (.nil)) rfl ?_
                refine OKS.r rfl rfl rfl rfl (fun _ => Runs.as rfl rfl) ?_
                refine OKS.e ?_
                refine thenQ_n ?_
                refine CK.ret ?_
                refine thenQ_r ?_
                cases hm606
                exact ⟨rfl, _, (res1 rfl), φ307, _, (hS316.pick [] _ (by decide) rfl), rfl, rfl⟩
            · have hm607 := hm333; rw [if_neg c334] at hm607; replace c334 := Hid.mk c334
              refine OKS.p rfl rfl rfl (wantedN rfl rfl (decT c334.out) rfl) ?_
              refine OKS.p rfl rfl rfl (wantedN rfl rfl (decT c334.out) rfl) ?_
              refine OKS.r rfl rfl rfl rfl (fun _ => Runs.pickT rfl (decT c334.out) rfl) ?_
              refine OKS.r rfl rfl rfl rfl (fun _ => Runs.mv rfl rfl) ?_
              refine OKS.p rfl rfl rfl (wantedN rfl rfl rfl rfl) ?_
              refine OKS.p rfl rfl rfl (wantedN rfl rfl rfl rfl) ?_
              refine OKS.p rfl rfl rfl (wantedN rfl rfl rfl rfl) ?_
              refine OKS.r rfl rfl rfl rfl (fun _ => Runs.pickT rfl rfl rfl) ?_
              refine OKS.e ?_
              refine thenQ_n ?_
              refine CK.condT rfl ?_
              refine CK.seq ?_
              refine CK.reg (ks := []) (.fl 0 (.nil)) rfl ?_
              refine OKS.r rfl rfl rfl rfl (fun _ => Runs.as rfl rfl) ?_
              refine OKS.e ?_
              refine thenQ_n ?_
              refine CK.ret ?_
              refine thenQ_r ?_
              cases hm607
              exact ⟨rfl, _, (res1 rfl), φ307, _, (hS316.pick [] _ (by decide) rfl), rfl, rfl⟩
        · have hm608 := hm306; rw [if_neg c329] at hm608; replace c329 := Hid.mk c329
          refine OKS.p rfl rfl rfl (wantedN rfl rfl (decT c329.out) rfl) ?_
          refine OKS.r rfl rfl rfl rfl (fun _ => Runs.pickT rfl (decT c329.out) rfl) ?_
          refine OKS.r rfl rfl rfl rfl (fun _ => Runs.mv rfl rfl) ?_
          refine OKS.p rfl rfl rfl (wantedN rfl rfl rfl rfl) ?_
          refine OKS.p rfl rfl rfl (wantedN rfl rfl rfl rfl) ?_
          refine OKS.r rfl rfl rfl rfl (fun _ => Runs.pickT rfl rfl rfl) ?_
          refine OKS.r rfl rfl rfl rfl (fun _ => Runs.mv rfl rfl) ?_
          refine OKS.p rfl rfl rfl (wantedN rfl rfl rfl rfl) ?_
          refine OKS.p rfl rfl rfl (wantedN rfl rfl rfl rfl) ?_
          refine OKS.r rfl rfl rfl rfl (fun _ => Runs.pickT rfl rfl rfl) ?_
          refine OKS.r rfl rfl rfl rfl (fun _ => Runs.mv rfl rfl) ?_
          refine OKS.p rfl rfl rfl (wantedN rfl rfl rfl rfl) ?_
          refine OKS.p rfl rfl rfl (wantedN rfl rfl rfl rfl) ?_
          refine OKS.p rfl rfl rfl (wantedN rfl rfl rfl rfl) ?_
          refine OKS.r rfl rfl rfl rfl (fun _ => Runs.pickT rfl rfl rfl) ?_
          refine OKS.e ?_
          refine thenQ_n ?_
          refine CK.condT rfl ?_
          refine CK.seq ?_
          refine CK.reg (ks := []) (.fl 0 (.nil)) rfl ?_
          refine OKS.r rfl rfl rfl rfl (fun _ => Runs.as rfl rfl) ?_
          refine OKS.e ?_
          refine thenQ_n ?_
          refine CK.ret ?_
          refine thenQ_r ?_
          cases hm608
          exact ⟨rfl, _, (res1 rfl), φ307, _, (hS316.pick [] _ (by decide) rfl), rfl, rfl⟩
    · have hm609 := hm74; rw [if_neg c75] at hm609; replace c75 := Hid.mk c75
      refine CK.condT (decT c75.out) ?_
      refine CK.seq ?_
      refine CK.reg (ks := []) (.fl 0 (.nil)) rfl ?_
      refine OKS.r rfl rfl rfl rfl (fun _ => Runs.as rfl rfl) ?_
      refine OKS.e ?_
      refine thenQ_n ?_
      refine CK.ret ?_
      refine thenQ_r ?_
      cases hm609
      exact ⟨rfl, _, (res1 rfl), φ63, _, (hS72.pick [] _ (by decide) rfl), rfl, rfl⟩
  · have hm610 := hm62; rw [if_neg c73] at hm610; replace c73 := Hid.mk c73
    refine OKS.p rfl rfl rfl (wantedN rfl rfl (decT c73.out) rfl) ?_
    refine OKS.p rfl rfl rfl (wantedN rfl rfl (decT c73.out) rfl) ?_
    refine OKS.p rfl rfl rfl (wantedN rfl rfl (decT c73.out) rfl) ?_
    refine OKS.p rfl rfl rfl (wantedN rfl rfl (decT c73.out) rfl) ?_
    refine OKS.r rfl rfl rfl rfl (fun _ => Runs.pickT rfl (decT c73.out) rfl) ?_
    refine OKS.e ?_
    refine thenQ_n ?_
    refine CK.condT rfl ?_
    refine CK.seq ?_
    refine CK.reg (ks := []) (.fl 0 (.nil)) rfl ?_
    refine OKS.r rfl rfl rfl rfl (fun _ => Runs.as rfl rfl) ?_
    refine OKS.e ?_
    refine thenQ_n ?_
    refine CK.ret ?_
    refine thenQ_r ?_
    cases hm610
    exact ⟨rfl, _, (res1 rfl), φ63, _, (hS72.pick [] _ (by decide) rfl), rfl, rfl⟩
end Go.Proofs.Ytnllmignponhdaa
