/- Walks, printed by a program: each function does what its model says. -/
import Derived.Test.YtnllmignponhdaaEnc
import Derived.Test.YtnllmignponhdaaW0
import Derived.Test.YtnllmignponhdaaW1
import Derived.Test.YtnllmignponhdaaW2
import Derived.Test.YtnllmignponhdaaW3
import Derived.Test.YtnllmignponhdaaW4
namespace Go.Proofs.Ytnllmignponhdaa
open Go.KL
set_option maxHeartbeats 4000000 in
theorem w_klisterref03_Between (p0 : Int) (p1 : List T_klisterref03_Sheet) (pA1 : Option Addr) (pc1 : Nat) (p2 : Int) (p3 : Int) (w : World) (φ : PHeap) (hS : St ⟨w, [], φ⟩ φ [] w) (ha0 : Sl φ 4 pA1 pc1 p1.length (List.flatMap encT_klisterref03_Sheet p1)) {r : T_api_Span × Int} (hm : m_klisterref03_Between p0 p1 p2 p3 = some r) : Gv Try.prog 29 [.int .i64 p0, .slice pA1 p1.length pc1, .int .i64 p2, .int .i64 p3] w (RetS w [] φ (fun φ_ L_ v => v = .tuple #[.agg #[.int .i64 r.1.Lo, .int .i64 r.1.Hi], .int .i64 r.2] ∧ L_ = [])) := by
  unfold m_klisterref03_Between at hm
  refine Gv.of Try.func29 rfl Try.ntmps29 Try.results29 rfl ?_
  refine CK.seq ?_
  refine CK.reg (ks := []) (.fx 0 (.fl 1 (.nil)) .stop) rfl ?_
  refine OKS.alloc (cs := [.int .i64 0, .int .i64 0]) rfl rfl rfl rfl rfl Try.zeroValue31 rfl hS ?_
  intro W1 b2 hS3
  refine OKS.r rfl rfl rfl rfl (fun _ => Runs.as rfl rfl) ?_
  refine OKS.e ?_
  refine thenQ_n ?_
  refine CK.seq ?_
  refine CK.seq ?_
  refine CK.reg (ks := []) (.fl 0 (.fl 1 (.fx 2 (.fl 3 (.nil)) .stop))) rfl ?_
  refine OKS.r rfl rfl rfl rfl (fun _ => Runs.mv rfl rfl) ?_
  refine OKS.r rfl rfl rfl rfl (fun _ => Runs.mv rfl rfl) ?_
  obtain ⟨x5, h6, hm7⟩ := bnd hm
  refine OKS.callH 0 rfl rfl rfl rfl (Enters.mk rfl rfl Try.call26 (mapcons rfl (mapcons rfl mapnil)) rfl) hS3 (fun hs => w_klisterref03_CheckSheets p0 p1 pA1 pc1 W1 φ hs ha0 h6) (.inr rfl) ?_
  rintro φ8 L9 v10 W11 le12 hS13 ⟨rfl, rfl⟩
  have hS14 : St ⟨w, [], φ⟩ φ8 [.blk b2 31 [.int .i64 0, .int .i64 0]] W11 := hS13
  refine OKS.r rfl rfl rfl rfl (fun _ => Runs.as rfl rfl) ?_
  refine OKS.e ?_
  refine thenQ_n ?_
  refine CK.seq ?_
  refine CK.reg (ks := []) (.fl 0 (.fl 1 (.nil))) rfl ?_
  refine OKS.r rfl rfl rfl rfl (fun _ => Runs.mv rfl rfl) ?_
  refine OKS.r rfl rfl rfl rfl (fun _ => Runs.neq rfl rfl rfl) ?_
  refine OKS.e ?_
  refine thenQ_n ?_
  by_cases c15 : x5 = 0
  · have hm16 := hm7; rw [if_pos c15] at hm16; replace c15 := Hid.mk c15
    refine CK.condF (decF (fun h => h c15.out)) ?_
    refine CK.skip ?_
    refine thenQ_n ?_
    refine CK.seq ?_
    refine CK.seq ?_
    refine CK.reg (ks := []) (.fl 0 (.fl 1 (.fl 2 (.fl 3 (.fl 4 (.fl 5 (.fl 6 (.fl 7 (.fl 8 (.fl 9 (.fl 10 (.fl 11 (.nil))))))))))))) rfl ?_
    refine OKS.r rfl rfl rfl rfl (fun _ => Runs.mv rfl rfl) ?_
    refine OKS.r rfl rfl rfl rfl (fun _ => Runs.lss rfl rfl rfl) ?_
    refine OKS.r rfl rfl rfl rfl (fun _ => Runs.mv rfl rfl) ?_
    by_cases c17 : p2 < 0
    · have hm18 := hm16; rw [if_pos c17] at hm18; replace c17 := Hid.mk c17
      refine OKS.p rfl rfl rfl (wantedN rfl rfl (decT c17.out) rfl) ?_
      refine OKS.p rfl rfl rfl (wantedN rfl rfl (decT c17.out) rfl) ?_
      refine OKS.p rfl rfl rfl (wantedN rfl rfl (decT c17.out) rfl) ?_
      refine OKS.r rfl rfl rfl rfl (fun _ => Runs.pickT rfl (decT c17.out) rfl) ?_
      refine OKS.r rfl rfl rfl rfl (fun _ => Runs.mv rfl rfl) ?_
      refine OKS.p rfl rfl rfl (wantedN rfl rfl rfl rfl) ?_
      refine OKS.p rfl rfl rfl (wantedN rfl rfl rfl rfl) ?_
      refine OKS.p rfl rfl rfl (wantedN rfl rfl rfl rfl) ?_
      refine OKS.r rfl rfl rfl rfl (fun _ => Runs.pickT rfl rfl rfl) ?_
      refine OKS.e ?_
      refine thenQ_n ?_
      refine CK.condT rfl ?_
      refine CK.seq ?_
      refine CK.reg (ks := []) (.fl 0 (.fx 1 (.fl 2 (.nil)) .stop)) rfl ?_
      refine OKS.r rfl rfl rfl rfl (fun _ => Runs.build (pv := []) (z := [.int .i64 0, .int .i64 0]) (cs := [.int .i64 0, .int .i64 0]) rfl mapnil2 Try.zeroValue31 places31 rfl rfl) ?_
      refine OKS.st (j := 0) (vs := [.int .i64 0, .int .i64 0]) rfl rfl rfl rfl hS14 rfl rfl rfl rfl Try.sizeOf31 (Nat.le_of_ble_eq_true rfl) rfl rfl rfl ?_
      intro W19 hS20
      have hS21 : St ⟨w, [], φ⟩ φ8 [.blk b2 31 [.int .i64 0, .int .i64 0]] W19 := hS20
      refine OKS.r rfl rfl rfl rfl (fun _ => Runs.as rfl rfl) ?_
      refine OKS.e ?_
      refine thenQ_n ?_
      refine CK.ret ?_
      refine thenQ_r ?_
      cases hm18
      exact ⟨rfl, _, (resLn (rs := [.cell 8 31, .tmp 9]) (vs := [.agg #[.int .i64 0, .int .i64 0], .int .i64 1]) ⟨⟨_, rfl, (ldvarA Try.isAgg31 Try.sizeOf31 (hS21.blkAt (k := 0) rfl) (vs := [.int .i64 0, .int .i64 0]) rfl rfl)⟩, ⟨rfl, trivial⟩⟩ rfl), φ8, _, (hS21.pick [] _ (by decide) rfl), rfl, rfl⟩
    · have hm22 := hm16; rw [if_neg c17] at hm22; replace c17 := Hid.mk c17
      refine OKS.r rfl rfl rfl (wantedY rfl rfl (decF c17.out)) (fun _ => Runs.mv rfl rfl) ?_
      refine OKS.r rfl rfl rfl (wantedY rfl rfl (decF c17.out)) (fun _ => Runs.mv rfl rfl) ?_
      refine OKS.r rfl rfl rfl (wantedY rfl rfl (decF c17.out)) (fun _ => Runs.geq rfl rfl rfl) ?_
      refine OKS.r rfl rfl rfl rfl (fun _ => Runs.pickF rfl (decF c17.out) rfl) ?_
      refine OKS.r rfl rfl rfl rfl (fun _ => Runs.mv rfl rfl) ?_
      by_cases c23 : p0 ≤ p3
      · have hm24 := hm22; rw [if_pos c23] at hm24; replace c23 := Hid.mk c23
        refine OKS.p rfl rfl rfl (wantedN rfl rfl (decT c23.out) rfl) ?_
        refine OKS.p rfl rfl rfl (wantedN rfl rfl (decT c23.out) rfl) ?_
        refine OKS.p rfl rfl rfl (wantedN rfl rfl (decT c23.out) rfl) ?_
        refine OKS.r rfl rfl rfl rfl (fun _ => Runs.pickT rfl (decT c23.out) rfl) ?_
        refine OKS.e ?_
        refine thenQ_n ?_
        refine CK.condT rfl ?_
        refine CK.seq ?_
        refine CK.reg (ks := []) (.fl 0 (.fx 1 (.fl 2 (.nil)) .stop)) rfl ?_
        refine OKS.r rfl rfl rfl rfl (fun _ => Runs.build (pv := []) (z := [.int .i64 0, .int .i64 0]) (cs := [.int .i64 0, .int .i64 0]) rfl mapnil2 Try.zeroValue31 places31 rfl rfl) ?_
        refine OKS.st (j := 0) (vs := [.int .i64 0, .int .i64 0]) rfl rfl rfl rfl hS14 rfl rfl rfl rfl Try.sizeOf31 (Nat.le_of_ble_eq_true rfl) rfl rfl rfl ?_
        intro W25 hS26
        have hS27 : St ⟨w, [], φ⟩ φ8 [.blk b2 31 [.int .i64 0, .int .i64 0]] W25 := hS26
        refine OKS.r rfl rfl rfl rfl (fun _ => Runs.as rfl rfl) ?_
        refine OKS.e ?_
        refine thenQ_n ?_
        refine CK.ret ?_
        refine thenQ_r ?_
        cases hm24
        exact ⟨rfl, _, (resLn (rs := [.cell 8 31, .tmp 9]) (vs := [.agg #[.int .i64 0, .int .i64 0], .int .i64 1]) ⟨⟨_, rfl, (ldvarA Try.isAgg31 Try.sizeOf31 (hS27.blkAt (k := 0) rfl) (vs := [.int .i64 0, .int .i64 0]) rfl rfl)⟩, ⟨rfl, trivial⟩⟩ rfl), φ8, _, (hS27.pick [] _ (by decide) rfl), rfl, rfl⟩
      · have hm28 := hm22; rw [if_neg c23] at hm28; replace c23 := Hid.mk c23
        refine OKS.r rfl rfl rfl (wantedY rfl rfl (decF c23.out)) (fun _ => Runs.mv rfl rfl) ?_
        refine OKS.r rfl rfl rfl (wantedY rfl rfl (decF c23.out)) (fun _ => Runs.mv rfl rfl) ?_
        refine OKS.r rfl rfl rfl (wantedY rfl rfl (decF c23.out)) (fun _ => Runs.gtr rfl rfl rfl) ?_
        refine OKS.r rfl rfl rfl rfl (fun _ => Runs.pickF rfl (decF c23.out) rfl) ?_
        refine OKS.e ?_
        refine thenQ_n ?_
        by_cases c29 : p3 < p2
        · have hm30 := hm28; rw [if_pos c29] at hm30; replace c29 := Hid.mk c29
          refine CK.condT (decT c29.out) ?_
          refine CK.seq ?_
          refine CK.reg (ks := []) (.fl 0 (.fx 1 (.fl 2 (.nil)) .stop)) rfl ?_
          refine OKS.r rfl rfl rfl rfl (fun _ => Runs.build (pv := []) (z := [.int .i64 0, .int .i64 0]) (cs := [.int .i64 0, .int .i64 0]) rfl mapnil2 Try.zeroValue31 places31 rfl rfl) ?_
          refine OKS.st (j := 0) (vs := [.int .i64 0, .int .i64 0]) rfl rfl rfl rfl hS14 rfl rfl rfl rfl Try.sizeOf31 (Nat.le_of_ble_eq_true rfl) rfl rfl rfl ?_
          intro W31 hS32
          have hS33 : St ⟨w, [], φ⟩ φ8 [.blk b2 31 [.int .i64 0, .int .i64 0]] W31 := hS32
          refine OKS.r rfl rfl rfl rfl (fun _ => Runs.as rfl rfl) ?_
          refine OKS.e ?_
          refine thenQ_n ?_
          refine CK.ret ?_
          refine thenQ_r ?_
          cases hm30
          exact ⟨rfl, _, (resLn (rs := [.cell 8 31, .tmp 9]) (vs := [.agg #[.int .i64 0, .int .i64 0], .int .i64 1]) ⟨⟨_, rfl, (ldvarA Try.isAgg31 Try.sizeOf31 (hS33.blkAt (k := 0) rfl) (vs := [.int .i64 0, .int .i64 0]) rfl rfl)⟩, ⟨rfl, trivial⟩⟩ rfl), φ8, _, (hS33.pick [] _ (by decide) rfl), rfl, rfl⟩
        · have hm34 := hm28; rw [if_neg c29] at hm34; replace c29 := Hid.mk c29
          refine CK.condF (decF c29.out) ?_
          refine CK.skip ?_
          refine thenQ_n ?_
          refine CK.seq ?_
          refine CK.reg (ks := []) (.fl 0 (.fl 1 (.fx 2 (.fl 3 (.nil)) .stop))) rfl ?_
          refine OKS.r rfl rfl rfl rfl (fun _ => Runs.mv rfl rfl) ?_
          refine OKS.r rfl rfl rfl rfl (fun _ => Runs.mv rfl rfl) ?_
          have h35 := ha0.le le12
          obtain ⟨x36, h37, hm38⟩ := bnd hm34
          refine OKS.callH 0 rfl rfl rfl rfl (Enters.mk rfl rfl Try.call68 (mapcons rfl (mapcons rfl mapnil)) rfl) hS14 (fun hs => w_klisterref03_Truths p0 p1 pA1 pc1 W11 φ8 hs h35 h37) (.inr rfl) ?_
          rintro φ39 L40 v41 W42 le43 hS44 ⟨A45, c46, c47, rfl, rfl, h49⟩
          have hS50 : St ⟨w, [], φ⟩ φ39 [.row A45 c46 23 1 c47, .blk b2 31 [.int .i64 0, .int .i64 0]] W42 := hS44
          refine OKS.r rfl rfl rfl rfl (fun _ => Runs.as rfl rfl) ?_
          refine OKS.e ?_
          refine thenQ_n ?_
          refine CK.seq ?_
          refine CK.seq ?_
          refine CK.reg (ks := []) (.fl 0 (.fl 1 (.fl 2 (.nil)))) rfl ?_
          refine OKS.r rfl rfl rfl rfl (fun _ => Runs.mv rfl rfl) ?_
          refine OKS.r rfl rfl rfl rfl (fun _ => Runs.len rfl rfl Try.runUnderlying74) ?_
          refine OKS.r rfl rfl rfl rfl (fun _ => Runs.eql rfl rfl rfl) ?_
          refine OKS.e ?_
          refine thenQ_n ?_
          by_cases c51 : (↑x36.length : Int) = 0
          · have hm52 := hm38; rw [if_pos c51] at hm52; replace c51 := Hid.mk c51
            refine CK.condT (decT c51.out) ?_
            refine CK.seq ?_
            refine CK.reg (ks := []) (.fl 0 (.fx 1 (.fl 2 (.nil)) .stop)) rfl ?_
            refine OKS.r rfl rfl rfl rfl (fun _ => Runs.build (pv := []) (z := [.int .i64 0, .int .i64 0]) (cs := [.int .i64 0, .int .i64 0]) rfl mapnil2 Try.zeroValue31 places31 rfl rfl) ?_
            refine OKS.st (j := 1) (vs := [.int .i64 0, .int .i64 0]) rfl rfl rfl rfl hS50 rfl rfl rfl rfl Try.sizeOf31 (Nat.le_of_ble_eq_true rfl) rfl rfl rfl ?_
            intro W53 hS54
            have hS55 : St ⟨w, [], φ⟩ φ39 [.row A45 c46 23 1 c47, .blk b2 31 [.int .i64 0, .int .i64 0]] W53 := hS54
            refine OKS.r rfl rfl rfl rfl (fun _ => Runs.as rfl rfl) ?_
            refine OKS.e ?_
            refine thenQ_n ?_
            refine CK.ret ?_
            refine thenQ_r ?_
            cases hm52
            exact ⟨rfl, _, (resLn (rs := [.cell 8 31, .tmp 9]) (vs := [.agg #[.int .i64 0, .int .i64 0], .int .i64 7]) ⟨⟨_, rfl, (ldvarA Try.isAgg31 Try.sizeOf31 (hS55.blkAt (k := 1) rfl) (vs := [.int .i64 0, .int .i64 0]) rfl rfl)⟩, ⟨rfl, trivial⟩⟩ rfl), φ39, _, (hS55.pick [] _ (by decide) rfl), rfl, rfl⟩
          · have hm56 := hm38; rw [if_neg c51] at hm56; replace c51 := Hid.mk c51
            refine CK.condF (decF c51.out) ?_
            refine CK.skip ?_
            refine thenQ_n ?_
            refine CK.seq ?_
            refine CK.reg (ks := []) (.fl 0 (.fx 1 (.fx 2 (.nil) .stop) .stop)) rfl ?_
            refine OKS.r rfl rfl rfl rfl (fun _ => Runs.build (pv := [(0, .int .i64 100)]) (z := [.int .i64 0, .int .i64 0]) (cs := [.int .i64 100, .int .i64 0]) rfl (mapcons2 rfl mapnil2) Try.zeroValue31 places31 rfl rfl) ?_
            refine OKS.alloc (cs := [.int .i64 0, .int .i64 0]) rfl rfl rfl rfl rfl Try.zeroValue31 rfl hS50 ?_
            intro W57 b58 hS59
            refine OKS.st (j := 0) (vs := [.int .i64 100, .int .i64 0]) rfl rfl rfl rfl hS59 rfl rfl rfl rfl Try.sizeOf31 (Nat.le_of_ble_eq_true rfl) rfl rfl rfl ?_
            intro W61 hS62
            have hS63 : St ⟨w, [], φ⟩ φ39 [.blk b58 31 [.int .i64 100, .int .i64 0], .row A45 c46 23 1 c47, .blk b2 31 [.int .i64 0, .int .i64 0]] W61 := hS62
            refine OKS.e ?_
            refine thenQ_n ?_
            refine CK.seq ?_
            refine CK.seq ?_
            refine CK.reg (ks := []) (.fl 0 (.nil)) rfl ?_
            refine OKS.r rfl rfl rfl rfl (fun _ => Runs.as rfl rfl) ?_
            refine OKS.e ?_
            refine thenQ_n ?_
            refine CK.block ?_
            obtain ⟨φ67, le68, hs69, hS70⟩ := hS63.freezeRR (R := rl23) (k := 1) rfl h49 rfl (by decide)
            have hS71 : St ⟨w, [], φ⟩ φ67 [.blk b58 31 [.int .i64 100, .int .i64 0], .blk b2 31 [.int .i64 0, .int .i64 0]] W61 := hS70
            obtain ⟨⟨y87, y88⟩, hf84, hm83⟩ := bnd hm56
            try dsimp only at hm83
            obtain ⟨hle85, hf86⟩ := forR'_le hf84
            replace hle85 := Hid.mk hle85
            refine CK.forN' (fun k82 (x80, x81) σ_ w_ => ∃ (φ_ : PHeap), σ_ 13 = .int .i64 (↑k82 : Int) ∧ σ_ 2 = .int .i64 p2 ∧ σ_ 3 = .int .i64 p3 ∧ σ_ 8 = .pointer (some ⟨b2, 0, none⟩) ∧ σ_ 11 = .slice A45 x36.length c46 ∧ σ_ 12 = .pointer (some ⟨b58, 0, none⟩) ∧ PHeap.Le φ67 φ_ ∧ St ⟨w, [], φ⟩ φ_ [.blk b58 31 [.int .i64 x80, .int .i64 x81], .blk b2 31 [.int .i64 0, .int .i64 0]] w_) hf86 ?_ ?_ ?_
            · exact ⟨φ67, rfl, rfl, rfl, rfl, rfl, rfl, (PHeap.Le.refl _), hS71⟩
            · rintro k82 ⟨x80, x81⟩ xx91 σ89 W90 hk94 ⟨φ96, fi95, f99, f100, f101, f102, f103, le97, hS98⟩ hx92
              try dsimp only at hx92
              have c104 : Hid ((↑k82 : Int) < (↑x36.length : Int)) := Hid.mk (lp_lt0 hk94)
              replace hk94 := Hid.mk hk94
              have hi105 : Hid (w64 ((↑k82 : Int) + 1) = (↑(k82 + 1) : Int)) := Hid.mk (by have h1 := hle85.out; have h2 := c104.out; rw [w64_in] <;> omega)
              refine CK.seq ?_
              refine CK.seq ?_
              refine CK.reg (ks := []) (.fl 0 (.fl 1 (.fl 2 (.fl 3 (.nil))))) rfl ?_
              refine OKS.r rfl rfl rfl rfl (fun _ => Runs.mv rfl fi95) ?_
              refine OKS.r rfl rfl rfl rfl (fun _ => Runs.mv rfl f102) ?_
              refine OKS.r rfl rfl rfl rfl (fun _ => Runs.len rfl rfl Try.runUnderlying74) ?_
              refine OKS.r rfl rfl rfl rfl (fun _ => Runs.lss rfl rfl rfl) ?_
              refine OKS.e ?_
              refine thenQ_n ?_
              refine CK.condT (decT c104.out) ?_
              refine CK.skip ?_
              refine thenQ_n ?_
              refine CK.seq ?_
              refine CK.block ?_
              refine CK.seq ?_
              refine CK.reg (ks := []) (.fl 0 (.nil)) rfl ?_
              refine OKS.r rfl rfl rfl rfl (fun _ => Runs.as rfl rfl) ?_
              refine OKS.e ?_
              refine thenQ_n ?_
              refine CK.seq ?_
              refine CK.seq ?_
              refine CK.reg (ks := []) (.fl 0 (.fl 1 (.nil))) rfl ?_
              refine OKS.r rfl rfl rfl rfl (fun _ => Runs.mv rfl f99) ?_
              refine OKS.r rfl rfl rfl rfl (fun _ => Runs.as rfl rfl) ?_
              refine OKS.e ?_
              refine thenQ_n ?_
              refine CK.block ?_
              refine CK.iter (fun (x112, x113) σ_ w_ => ∃ (φ_ : PHeap), σ_ 2 = .int .i64 p2 ∧ σ_ 3 = .int .i64 p3 ∧ σ_ 8 = .pointer (some ⟨b2, 0, none⟩) ∧ σ_ 11 = .slice A45 x36.length c46 ∧ σ_ 12 = .pointer (some ⟨b58, 0, none⟩) ∧ σ_ 13 = .int .i64 (↑k82 : Int) ∧ σ_ 14 = .int .i64 x112 ∧ σ_ 15 = .int .i64 x113 ∧ PHeap.Le φ96 φ_ ∧ St ⟨w, [], φ⟩ φ_ [.blk b58 31 [.int .i64 x80, .int .i64 x81], .blk b2 31 [.int .i64 0, .int .i64 0]] w_) hx92 ?_ ?_
              · exact ⟨φ96, f99, f100, f101, f102, f103, fi95, rfl, rfl, (PHeap.Le.refl _), hS98⟩
              · rintro ⟨x112, x113⟩ xx116 σ114 W115 ⟨φ121, f124, f125, f126, f127, f128, f129, f130, f131, le122, hS123⟩ hx117 hb118
                try dsimp only at hx117
                refine CK.seq ?_
                refine CK.seq ?_
                refine CK.reg (ks := []) (.fl 0 (.fl 1 (.fl 2 (.nil)))) rfl ?_
                refine OKS.r rfl rfl rfl rfl (fun _ => Runs.mv rfl f131) ?_
                refine OKS.r rfl rfl rfl rfl (fun _ => Runs.mv rfl f125) ?_
                refine OKS.r rfl rfl rfl rfl (fun _ => Runs.leq rfl rfl rfl) ?_
                refine OKS.e ?_
                refine thenQ_n ?_
                by_cases c132 : x113 ≤ p3
                · have hm133 := hx117; rw [if_pos c132] at hm133; replace c132 := Hid.mk c132
                  refine CK.condT (decT c132.out) ?_
                  refine CK.skip ?_
                  refine thenQ_n ?_
                  refine CK.seq ?_
                  refine CK.block ?_
                  refine CK.reg (ks := []) (.fl 0 (.fl 1 (.fl 2 (.fl 3 (.fl 4 (.fl 5 (.fl 6 (.fl 7 (.fl 8 (.fl 9 (.nil))))))))))) rfl ?_
                  refine OKS.r rfl rfl rfl rfl (fun _ => Runs.mv rfl f130) ?_
                  refine OKS.r rfl rfl rfl rfl (fun _ => Runs.mv rfl f127) ?_
                  refine OKS.r rfl rfl rfl rfl (fun _ => Runs.mv rfl f129) ?_
                  obtain ⟨x134, h135, hm136⟩ := bnd hm133
                  have h137 := hs69.le le97
                  have h138 := h137.le le122
                  obtain ⟨b139, off140, vs143, hA141, hC142, hr144⟩ := h138.el (idx_get h135)
                  obtain ⟨pA145, pc146, rfl, h147⟩ := hr144
                  replace hC142 : Cl φ121 b139 (off140 + k82 * 1) [.slice pA145 x134.length pc146] := hC142
                  refine OKS.r rfl rfl rfl rfl (fun _ => Runs.iaN rfl rfl hA141 rfl Try.runUnderlying74 Try.sizeOf23 (idx_lt h135)) ?_
                  refine OKS.m rfl rfl rfl rfl (hS123.ldC (f := 0) hC142 (v := .slice pA145 x134.length pc146) rfl rfl Try.isAgg23 rfl) rfl ?_
                  refine OKS.r rfl rfl rfl rfl (fun _ => Runs.mv rfl f131) ?_
                  obtain ⟨x148, h149, hm150⟩ := bnd hm136
                  obtain ⟨b151, off152, hA153, hC154⟩ := h147.el (fun _ => rfl) (idx_get h149)
                  refine OKS.r rfl rfl rfl rfl (fun _ => Runs.iaI rfl rfl hA153 rfl Try.runUnderlying23 Try.sizeOf3 (idx_lo h149) (idx_hi h149)) ?_
                  refine OKS.m rfl rfl rfl rfl (hS123.ldC (f := 0) hC154 (v := .int .i64 x148) rfl rfl Try.isAgg3 rfl) rfl ?_
                  refine OKS.r rfl rfl rfl rfl (fun _ => Runs.addw rfl rfl rfl) ?_
                  refine OKS.r rfl rfl rfl rfl (fun _ => Runs.as rfl rfl) ?_
                  refine OKS.e ?_
                  refine blockQ_n ?_
                  refine thenQ_n ?_
                  refine CK.reg (ks := []) (.fl 0 (.fl 1 (.fl 2 (.nil)))) rfl ?_
                  refine OKS.r rfl rfl rfl rfl (fun _ => Runs.mv rfl f131) ?_
                  refine OKS.r rfl rfl rfl rfl (fun _ => Runs.addw rfl rfl rfl) ?_
                  refine OKS.r rfl rfl rfl rfl (fun _ => Runs.as rfl rfl) ?_
                  refine OKS.e ?_
                  obtain rfl := Option.some.inj hm150
                  exact thenQ_n ⟨rfl, _, rfl, ⟨φ121, f124, f125, f126, f127, f128, f129, rfl, rfl, le122, hS123⟩⟩
                · have hm157 := hx117; rw [if_neg c132] at hm157; replace c132 := Hid.mk c132
                  refine CK.condF (decF c132.out) ?_
                  refine CK.exit ?_
                  refine thenQ_e ?_
                  obtain ⟨v158, hm159, e160⟩ := esc_spec hm157
                  obtain rfl := hb118 v158 e160
                  refine thenQ_e ?_
                  refine blockQ_h ?_
                  refine thenQ_n ?_
                  refine CK.seq ?_
                  refine CK.reg (ks := []) (.fl 0 (.fl 1 (.fl 2 (.fl 3 (.fl 4 (.fx 5 (.nil) .stop)))))) rfl ?_
                  refine OKS.r rfl rfl rfl rfl (fun _ => Runs.fa rfl f128 Try.runUnderlying31 rfl Try.sizeOf3) ?_
                  refine OKS.m rfl rfl rfl rfl (hS123.ldB (j := 0) rfl rfl rfl Try.isAgg3 (v := .int .i64 x80) rfl) rfl ?_
                  refine OKS.r rfl rfl rfl rfl (fun _ => Runs.mv rfl f130) ?_
                  refine OKS.r rfl rfl rfl rfl (fun _ => Runs.min rfl rfl rfl) ?_
                  refine OKS.r rfl rfl rfl rfl (fun _ => Runs.fa rfl f128 Try.runUnderlying31 rfl Try.sizeOf3) ?_
                  refine OKS.st (j := 0) (vs := [.int .i64 (min x80 x112)]) rfl rfl rfl rfl hS123 rfl rfl rfl rfl Try.sizeOf3 (Nat.le_of_ble_eq_true rfl) rfl rfl rfl ?_
                  intro W161 hS162
                  have hS163 : St ⟨w, [], φ⟩ φ121 [.blk b58 31 [.int .i64 (min x80 x112), .int .i64 x81], .blk b2 31 [.int .i64 0, .int .i64 0]] W161 := hS162
                  refine OKS.e ?_
                  refine thenQ_n ?_
                  refine CK.reg (ks := []) (.fl 0 (.fl 1 (.fl 2 (.fl 3 (.fl 4 (.fx 5 (.nil) .stop)))))) rfl ?_
                  refine OKS.r rfl rfl rfl rfl (fun _ => Runs.fa rfl f128 Try.runUnderlying31 rfl Try.sizeOf3) ?_
                  refine OKS.m rfl rfl rfl rfl (hS163.ldB (j := 0) rfl rfl rfl Try.isAgg3 (v := .int .i64 x81) rfl) rfl ?_
                  refine OKS.r rfl rfl rfl rfl (fun _ => Runs.mv rfl f130) ?_
                  refine OKS.r rfl rfl rfl rfl (fun _ => Runs.max rfl rfl rfl) ?_
                  refine OKS.r rfl rfl rfl rfl (fun _ => Runs.fa rfl f128 Try.runUnderlying31 rfl Try.sizeOf3) ?_
                  refine OKS.st (j := 0) (vs := [.int .i64 (max x81 x112)]) rfl rfl rfl rfl hS163 rfl rfl rfl rfl Try.sizeOf3 (Nat.le_of_ble_eq_true rfl) rfl rfl rfl ?_
                  intro W164 hS165
                  have hS166 : St ⟨w, [], φ⟩ φ121 [.blk b58 31 [.int .i64 (min x80 x112), .int .i64 (max x81 x112)], .blk b2 31 [.int .i64 0, .int .i64 0]] W164 := hS165
                  refine OKS.e ?_
                  refine blockQ_n ?_
                  refine thenQ_n ?_
                  refine CK.reg (ks := []) (.fl 0 (.fl 1 (.fl 2 (.nil)))) rfl ?_
                  refine OKS.r rfl rfl rfl rfl (fun _ => Runs.mv rfl f129) ?_
                  refine OKS.r rfl rfl rfl rfl (fun _ => Runs.to (Runs.addw rfl rfl rfl) (congrArg (Value.int .i64) hi105.out)) ?_
                  refine OKS.r rfl rfl rfl rfl (fun _ => Runs.as rfl rfl) ?_
                  refine OKS.e ?_
                  cases hm159
                  exact thenQ_n ⟨rfl, ⟨φ121, rfl, f124, f125, f126, f127, f128, (le97.trans le122), hS166⟩⟩
            · rintro σ169 W170 ⟨φ175, fi172, f178, f179, f180, f181, f182, le176, hS177⟩
              have c183 : Hid (¬ ((↑(((↑x36.length : Int) : Int) - 0).toNat : Int) < (↑x36.length : Int))) := Hid.mk (lp_end0)
              refine CK.seq ?_
              refine CK.seq ?_
              refine CK.reg (ks := []) (.fl 0 (.fl 1 (.fl 2 (.fl 3 (.nil))))) rfl ?_
              refine OKS.r rfl rfl rfl rfl (fun _ => Runs.mv rfl fi172) ?_
              refine OKS.r rfl rfl rfl rfl (fun _ => Runs.mv rfl f181) ?_
              refine OKS.r rfl rfl rfl rfl (fun _ => Runs.len rfl rfl Try.runUnderlying74) ?_
              refine OKS.r rfl rfl rfl rfl (fun _ => Runs.lss rfl rfl rfl) ?_
              refine OKS.e ?_
              refine thenQ_n ?_
              refine CK.condF (decF c183.out) ?_
              refine CK.exit ?_
              refine thenQ_e ?_
              refine thenQ_e ?_
              refine blockQ_h ?_
              refine thenQ_n ?_
              refine CK.seq ?_
              refine CK.reg (ks := []) (.fl 0 (.fx 1 (.fl 2 (.nil)) .stop)) rfl ?_
              refine OKS.m rfl rfl rfl rfl (hS177.ldBA (j := 0) rfl rfl f182 Try.isAgg31 Try.sizeOf31 (vs := [.int .i64 y87, .int .i64 y88]) rfl rfl) rfl ?_
              refine OKS.st (j := 1) (vs := [.int .i64 y87, .int .i64 y88]) rfl rfl rfl rfl hS177 rfl f180 rfl rfl Try.sizeOf31 (Nat.le_of_ble_eq_true rfl) rfl rfl rfl ?_
              intro W184 hS185
              have hS186 : St ⟨w, [], φ⟩ φ175 [.blk b58 31 [.int .i64 y87, .int .i64 y88], .blk b2 31 [.int .i64 y87, .int .i64 y88]] W184 := hS185
              refine OKS.r rfl rfl rfl rfl (fun _ => Runs.as rfl rfl) ?_
              refine OKS.e ?_
              refine thenQ_n ?_
              refine CK.ret ?_
              cases hm83
              exact ⟨rfl, _, (resLn (rs := [.cell 8 31, .tmp 9]) (vs := [.agg #[.int .i64 y87, .int .i64 y88], .int .i64 0]) ⟨⟨_, f180, (ldvarA Try.isAgg31 Try.sizeOf31 (hS186.blkAt (k := 1) rfl) (vs := [.int .i64 y87, .int .i64 y88]) rfl rfl)⟩, ⟨rfl, trivial⟩⟩ rfl), φ175, _, (hS186.pick [] _ (by decide) rfl), rfl, rfl⟩
  · have hm187 := hm7; rw [if_neg c15] at hm187; replace c15 := Hid.mk c15
    refine CK.condT (decT c15.out) ?_
    refine CK.seq ?_
    refine CK.reg (ks := []) (.fl 0 (.fl 1 (.fx 2 (.fl 3 (.nil)) .stop))) rfl ?_
    refine OKS.r rfl rfl rfl rfl (fun _ => Runs.build (pv := []) (z := [.int .i64 0, .int .i64 0]) (cs := [.int .i64 0, .int .i64 0]) rfl mapnil2 Try.zeroValue31 places31 rfl rfl) ?_
    refine OKS.r rfl rfl rfl rfl (fun _ => Runs.mv rfl rfl) ?_
    refine OKS.st (j := 0) (vs := [.int .i64 0, .int .i64 0]) rfl rfl rfl rfl hS14 rfl rfl rfl rfl Try.sizeOf31 (Nat.le_of_ble_eq_true rfl) rfl rfl rfl ?_
    intro W188 hS189
    have hS190 : St ⟨w, [], φ⟩ φ8 [.blk b2 31 [.int .i64 0, .int .i64 0]] W188 := hS189
    refine OKS.r rfl rfl rfl rfl (fun _ => Runs.as rfl rfl) ?_
    refine OKS.e ?_
    refine thenQ_n ?_
    refine CK.ret ?_
    refine thenQ_r ?_
    cases hm187
    exact ⟨rfl, _, (resLn (rs := [.cell 8 31, .tmp 9]) (vs := [.agg #[.int .i64 0, .int .i64 0], .int .i64 x5]) ⟨⟨_, rfl, (ldvarA Try.isAgg31 Try.sizeOf31 (hS190.blkAt (k := 0) rfl) (vs := [.int .i64 0, .int .i64 0]) rfl rfl)⟩, ⟨rfl, trivial⟩⟩ rfl), φ8, _, (hS190.pick [] _ (by decide) rfl), rfl, rfl⟩

set_option maxHeartbeats 4000000 in
theorem w_target_Skied (p0 : Int) (p1 : List T_target_Sheet) (pA1 : Option Addr) (pc1 : Nat) (w : World) (φ : PHeap) (hS : St ⟨w, [], φ⟩ φ [] w) (ha0 : Sl φ 4 pA1 pc1 p1.length (List.flatMap encT_target_Sheet p1)) {r : (List T_api_Span) × Int} (hm : m_target_Skied p0 p1 = some r) : Gv Try.prog 21 [.int .i64 p0, .slice pA1 p1.length pc1] w (RetS w [] φ (fun φ_ L_ v => ∃ (A0 : Option Addr) (c0 : Nat), v = .tuple #[.slice A0 r.1.length c0, .int .i64 r.2] ∧ L_ = [.row A0 c0 31 2 (List.flatMap encT_api_Span r.1)])) := by
  unfold m_target_Skied at hm
  refine Gv.of Try.func21 rfl Try.ntmps21 Try.results21 rfl ?_
  refine CK.seq ?_
  refine CK.reg (ks := []) (.fl 0 (.fl 1 (.nil))) rfl ?_
  refine OKS.r rfl rfl rfl rfl (fun _ => Runs.as rfl rfl) ?_
  refine OKS.r rfl rfl rfl rfl (fun _ => Runs.as rfl rfl) ?_
  refine OKS.e ?_
  refine thenQ_n ?_
  refine CK.seq ?_
  refine CK.reg (ks := []) (.fl 0 (.fl 1 (.fx 2 (.fl 3 (.fl 4 (.fl 5 (.fx 6 (.fx 7 (.fl 8 (.nil)) .stop) .stop)))) .stop))) rfl ?_
  refine OKS.r rfl rfl rfl rfl (fun _ => Runs.mv rfl rfl) ?_
  refine OKS.r rfl rfl rfl rfl (fun _ => Runs.mv rfl rfl) ?_
  obtain ⟨⟨x1, x2⟩, h3, hm4⟩ := bnd hm
  try dsimp only at hm4
  refine OKS.callH 0 rfl rfl rfl rfl (Enters.mk rfl rfl Try.call74 (mapcons rfl (mapcons rfl mapnil)) rfl) hS (fun hs => w_target_counted p0 p1 pA1 pc1 w φ hs ha0 h3) (.inr rfl) ?_
  rintro φ5 L6 v7 W8 le9 hS10 ⟨rfl, rfl⟩
  have hS11 : St ⟨w, [], φ⟩ φ5 [] W8 := hS10
  refine OKS.r rfl rfl rfl rfl (fun _ => Runs.mv rfl rfl) ?_
  refine OKS.r rfl rfl rfl rfl (fun _ => Runs.ext rfl rfl (v := .agg (List.flatMap encI x1.l).toArray) rfl) ?_
  refine OKS.r rfl rfl rfl rfl (fun _ => Runs.ext rfl rfl (v := .int .i64 x2) rfl) ?_
  refine OKS.alloc (cs := List.flatMap encI (Arr.fill 81 0).l) rfl rfl rfl rfl rfl Try.zeroValue136 rfl hS11 ?_
  intro W12 b13 hS14
  have hS16 : St ⟨w, [], φ⟩ φ5 [.blk b13 136 (List.flatMap encI (Arr.fill 81 0).l)] W12 := hS14
  refine OKS.st (j := 0) (vs := List.flatMap encI x1.l) rfl rfl rfl rfl hS16 rfl rfl rfl rfl (fun w => by rw [whole_len (f := encI) (sz := 1) (N := 81) x1 (fun _ => rfl) rfl]; exact Try.sizeOf136 w) (by rw [whole_len (f := encI) (sz := 1) (N := 81) x1 (fun _ => rfl) rfl, whole_len (f := encI) (sz := 1) (N := 81) (Arr.fill 81 0) (fun _ => rfl) rfl]; exact Nat.le_of_ble_eq_true rfl) (all_one_flat (fun _ => rfl) _) (setN_all _ _ (by rw [whole_len (f := encI) (sz := 1) (N := 81) x1 (fun _ => rfl) rfl, whole_len (f := encI) (sz := 1) (N := 81) (Arr.fill 81 0) (fun _ => rfl) rfl])) rfl ?_
  intro W17 hS18
  have hS19 : St ⟨w, [], φ⟩ φ5 [.blk b13 136 (List.flatMap encI x1.l)] W17 := hS18
  refine OKS.r rfl rfl rfl rfl (fun _ => Runs.as rfl rfl) ?_
  refine OKS.e ?_
  refine thenQ_n ?_
  refine CK.seq ?_
  refine CK.seq ?_
  refine CK.reg (ks := []) (.fl 0 (.fl 1 (.nil))) rfl ?_
  refine OKS.r rfl rfl rfl rfl (fun _ => Runs.mv rfl rfl) ?_
  refine OKS.r rfl rfl rfl rfl (fun _ => Runs.neq rfl rfl rfl) ?_
  refine OKS.e ?_
  refine thenQ_n ?_
  by_cases c20 : x2 = 0
  · have hm21 := hm4; rw [if_pos c20] at hm21; replace c20 := Hid.mk c20
    refine CK.condF (decF (fun h => h c20.out)) ?_
    refine CK.skip ?_
    refine thenQ_n ?_
    refine CK.seq ?_
    refine CK.reg (ks := []) (.fl 0 (.nil)) rfl ?_
    refine OKS.r rfl rfl rfl rfl (fun _ => Runs.as rfl rfl) ?_
    refine OKS.e ?_
    refine thenQ_n ?_
    refine CK.seq ?_
    refine CK.seq ?_
    refine CK.reg (ks := []) (.fl 0 (.fl 1 (.nil))) rfl ?_
    refine OKS.r rfl rfl rfl rfl (fun _ => Runs.mv rfl rfl) ?_
    refine OKS.r rfl rfl rfl rfl (fun _ => Runs.mv rfl rfl) ?_
    refine OKS.e ?_
    refine thenQ_n ?_
    refine CK.block ?_
    obtain ⟨y44, hf41, hm40⟩ := bnd hm21
    obtain ⟨hle42, hf43⟩ := forR'_le hf41
    replace hle42 := Hid.mk hle42
    refine CK.forN' (fun k39 l35 σ_ w_ => ∃ (φ_ : PHeap) (A36 : Option Addr) (c37 : Nat), σ_ 20 = .int .i64 (↑k39 : Int) ∧ σ_ 6 = .pointer (some ⟨b13, 0, none⟩) ∧ σ_ 8 = .slice A36 l35.length c37 ∧ σ_ 19 = .int .i64 p0 ∧ PHeap.Le φ5 φ_ ∧ St ⟨w, [], φ⟩ φ_ [.blk b13 136 (List.flatMap encI x1.l), .row A36 c37 31 2 (List.flatMap encT_api_Span l35)] w_) hf43 ?_ ?_ ?_
    · have hS45 := hS19.nilrow 31 2
      exact ⟨φ5, none, 0, rfl, rfl, rfl, rfl, (PHeap.Le.refl _), (hS45.pick [1, 0] _ (by decide) rfl)⟩
    · rintro k39 l35 xx49 σ47 W48 hk52 ⟨φ54, A36, c37, fi53, f57, f58, f59, le55, hS56⟩ hx50
      have c60 : Hid ((↑k39 : Int) < p0) := Hid.mk (lp_lt0 hk52)
      replace hk52 := Hid.mk hk52
      have hi61 : Hid (w64 ((↑k39 : Int) + 1) = (↑(k39 + 1) : Int)) := Hid.mk (by have h1 := hle42.out; have h2 := c60.out; rw [w64_in] <;> omega)
      refine CK.seq ?_
      refine CK.reg (ks := []) (.fl 0 (.nil)) rfl ?_
      refine OKS.r rfl rfl rfl rfl (fun _ => Runs.lss rfl fi53 f59) ?_
      refine OKS.e ?_
      refine thenQ_n ?_
      refine CK.seq ?_
      refine CK.condT (decT c60.out) ?_
      refine CK.skip ?_
      refine thenQ_n ?_
      refine CK.seq ?_
      refine CK.block ?_
      refine CK.seq ?_
      refine CK.reg (ks := []) (.fl 0 (.fl 1 (.nil))) rfl ?_
      refine OKS.r rfl rfl rfl rfl (fun _ => Runs.mv rfl fi53) ?_
      refine OKS.r rfl rfl rfl rfl (fun _ => Runs.as rfl rfl) ?_
      refine OKS.e ?_
      refine thenQ_n ?_
      refine CK.anyOrd Try.mixed [3, 3, 3, 3, 3, 3, 1, 3, 3, 3, 3, 3, 3, 1, 3, 2, 0, 3] (.fl 0 (.fl 1 (.fl 2 (.fl 3 (.fl 4 (.fl 5 (.fl 6 (.fl 7 (.fl 8 (.fl 9 (.fl 10 (.fl 11 (.fl 12 (.fl 13 (.fl 14 (.fx 15 (.fx 16 (.fl 17 (.nil)) .stop) .stop)))))))))))))))) (by kernel_rfl) ?_
      have hS62 := hS56.drew
      generalize hw_W63 : ({ W48 with drawn := W48.drawn + 1 } : World) = W63 at hS62 ⊢
      refine OKS.r rfl rfl rfl rfl (fun _ => Runs.mv rfl f58) ?_
      refine OKS.r rfl rfl rfl rfl (fun _ => Runs.mv rfl rfl) ?_
      refine OKS.r rfl rfl rfl rfl (fun _ => Runs.to (Runs.addw rfl rfl rfl) (congrArg (Value.int .i64) hi61.out)) ?_
      refine OKS.r rfl rfl rfl rfl (fun _ => Runs.mv rfl rfl) ?_
      obtain ⟨_, h64, hm65⟩ := bnd hx50
      refine OKS.r rfl rfl rfl rfl (fun _ => Runs.iaA rfl f57 rfl Try.runUnderlying136 Try.sizeOf135 (chk_lo h64) (chk_hi h64)) ?_
      obtain ⟨_, h66, hm67⟩ := bnd hm65
      refine OKS.r rfl rfl rfl rfl (fun _ => Runs.iaA rfl rfl rfl Try.runUnderlying135 Try.sizeOf3 (chk_lo h66) (chk_hi h66)) ?_
      have hg68 := Arr.at_ x1 (k := ((k39 + 1) * 9 + k39)) (by have hz0 := chk_lt h64; have hz1 := chk_lt h66; omega)
      refine OKS.m rfl rfl rfl rfl (hS62.ldB (j := 0) rfl rfl rfl Try.isAgg3 (flatMap_cell (sz := 1) (fun _ => rfl) _ _ 0 _ hg68 (by omega) rfl)) rfl ?_
      refine OKS.r rfl rfl rfl rfl (fun _ => Runs.negw rfl rfl) ?_
      refine OKS.r rfl rfl rfl rfl (fun _ => Runs.mv rfl rfl) ?_
      refine OKS.r rfl rfl rfl rfl (fun _ => Runs.mv rfl rfl) ?_
      refine OKS.r rfl rfl rfl rfl (fun _ => Runs.to (Runs.addw rfl rfl rfl) (congrArg (Value.int .i64) hi61.out)) ?_
      refine OKS.r rfl rfl rfl rfl (fun _ => Runs.iaA rfl f57 rfl Try.runUnderlying136 Try.sizeOf135 (chk_lo h66) (chk_hi h66)) ?_
      refine OKS.r rfl rfl rfl rfl (fun _ => Runs.iaA rfl rfl rfl Try.runUnderlying135 Try.sizeOf3 (chk_lo h64) (chk_hi h64)) ?_
      have hg69 := Arr.at_ x1 (k := (k39 * 9 + (k39 + 1))) (by have hz0 := chk_lt h66; have hz1 := chk_lt h64; omega)
      refine OKS.m rfl rfl rfl rfl (hS62.ldB (j := 0) rfl rfl rfl Try.isAgg3 (flatMap_cell (sz := 1) (fun _ => rfl) _ _ 0 _ hg69 (by omega) rfl)) rfl ?_
      refine OKS.r rfl rfl rfl rfl (fun _ => Runs.build (pv := [(0, .int .i64 (w64 (-(x1.get ((k39 + 1) * 9 + k39))))), (1, .int .i64 (x1.get (k39 * 9 + (k39 + 1))))]) (z := [.int .i64 0, .int .i64 0]) (cs := [.int .i64 (w64 (-(x1.get ((k39 + 1) * 9 + k39)))), .int .i64 (x1.get (k39 * 9 + (k39 + 1)))]) rfl (mapcons2 rfl (mapcons2 rfl mapnil2)) Try.zeroValue31 places31 rfl rfl) ?_
      refine OKS.buildSlice (pv := [(0, .agg #[.int .i64 (w64 (-(x1.get ((k39 + 1) * 9 + k39)))), .int .i64 (x1.get (k39 * 9 + (k39 + 1)))])]) (zs := [.int .i64 0, .int .i64 0]) (cs := [.int .i64 (w64 (-(x1.get ((k39 + 1) * 9 + k39)))), .int .i64 (x1.get (k39 * 9 + (k39 + 1)))]) rfl rfl rfl rfl rfl (mapcons2 rfl mapnil2) Try.runUnderlying38 Try.sizeOf31 Try.zeroValue31 rfl rfl rfl rfl rfl hS62 ?_
      intro W70 b71 hS72
      have hS74 : St ⟨w, [], φ⟩ φ54 [.row (some ⟨b71, 0, none⟩) 1 31 2 (List.flatMap encT_api_Span [(⟨w64 (-(x1.get ((k39 + 1) * 9 + k39))), (x1.get (k39 * 9 + (k39 + 1)))⟩ : T_api_Span)]), .blk b13 136 (List.flatMap encI x1.l), .row A36 c37 31 2 (List.flatMap encT_api_Span l35)] W70 := hS72
      obtain ⟨x75, h76, hm77⟩ := bnd hm67
      refine OKS.append (j := 2) (enc := encT_api_Span) (xs := l35) (ys := [(⟨w64 (-(x1.get ((k39 + 1) * 9 + k39))), (x1.get (k39 * 9 + (k39 + 1)))⟩ : T_api_Span)]) (zs := x75) rfl rfl rfl rfl rfl Try.underlying38 info31 rfl rfl rfl rfl rfl rfl hS74 rfl rfl rfl (hS74.srcR (j := 0) rfl (by decide) (flatMap_len (f := encT_api_Span) (sz := 2) (fun _ => rfl) [(⟨w64 (-(x1.get ((k39 + 1) * 9 + k39))), (x1.get (k39 * 9 + (k39 + 1)))⟩ : T_api_Span)])) (fun _ => rfl) (fun _ => rfl) h76 rfl ?_
      intro A78 c79 W80 hS81
      have hS82 : St ⟨w, [], φ⟩ φ54 [.row (some ⟨b71, 0, none⟩) 1 31 2 (List.flatMap encT_api_Span [(⟨w64 (-(x1.get ((k39 + 1) * 9 + k39))), (x1.get (k39 * 9 + (k39 + 1)))⟩ : T_api_Span)]), .blk b13 136 (List.flatMap encI x1.l), .row A78 c79 31 2 (List.flatMap encT_api_Span x75)] W80 := hS81
      refine OKS.r rfl rfl rfl rfl (fun _ => Runs.as rfl rfl) ?_
      refine OKS.e ?_
      refine blockQ_n ?_
      refine thenQ_n ?_
      refine CK.reg (ks := []) (.fl 0 (.fl 1 (.nil))) rfl ?_
      refine OKS.r rfl rfl rfl rfl (fun _ => Runs.to (Runs.addw rfl fi53 rfl) (congrArg (Value.int .i64) hi61.out)) ?_
      refine OKS.r rfl rfl rfl rfl (fun _ => Runs.mv rfl rfl) ?_
      refine OKS.e ?_
      cases hm77
      exact thenQ_n ⟨rfl, ⟨φ54, A78, c79, rfl, f57, rfl, f59, le55, (hS82.pick [1, 2] _ (by decide) rfl)⟩⟩
    · rintro σ86 W87 ⟨φ95, A93, c94, fi89, f98, f99, f100, le96, hS97⟩
      have c101 : Hid (¬ ((↑((p0 : Int) - 0).toNat : Int) < p0)) := Hid.mk (lp_end0)
      refine CK.seq ?_
      refine CK.reg (ks := []) (.fl 0 (.nil)) rfl ?_
      refine OKS.r rfl rfl rfl rfl (fun _ => Runs.lss rfl fi89 f100) ?_
      refine OKS.e ?_
      refine thenQ_n ?_
      refine CK.seq ?_
      refine CK.condF (decF c101.out) ?_
      refine CK.exit ?_
      refine thenQ_e ?_
      refine thenQ_e ?_
      refine blockQ_h ?_
      refine thenQ_n ?_
      refine CK.seq ?_
      refine CK.reg (ks := []) (.fl 0 (.fl 1 (.fl 2 (.nil)))) rfl ?_
      refine OKS.r rfl rfl rfl rfl (fun _ => Runs.mv rfl f99) ?_
      refine OKS.r rfl rfl rfl rfl (fun _ => Runs.as rfl rfl) ?_
      refine OKS.r rfl rfl rfl rfl (fun _ => Runs.as rfl rfl) ?_
      refine OKS.e ?_
      refine thenQ_n ?_
      refine CK.ret ?_
      cases hm40
      exact ⟨rfl, _, (res2 rfl rfl), φ95, _, (hS97.pick [1] _ (by decide) rfl), A93, c94, rfl, rfl⟩
  · have hm102 := hm4; rw [if_neg c20] at hm102; replace c20 := Hid.mk c20
    refine CK.condT (decT c20.out) ?_
    refine CK.seq ?_
    refine CK.reg (ks := []) (.fl 0 (.fl 1 (.fl 2 (.nil)))) rfl ?_
    refine OKS.r rfl rfl rfl rfl (fun _ => Runs.mv rfl rfl) ?_
    refine OKS.r rfl rfl rfl rfl (fun _ => Runs.as rfl rfl) ?_
    refine OKS.r rfl rfl rfl rfl (fun _ => Runs.as rfl rfl) ?_
    refine OKS.e ?_
    refine thenQ_n ?_
    refine CK.ret ?_
    refine thenQ_r ?_
    have hS103 := hS19.nilrow 31 2
    cases hm102
    exact ⟨rfl, _, (res2 rfl rfl), φ5, _, (hS103.pick [0] _ (by decide) rfl), none, 0, rfl, rfl⟩

set_option maxHeartbeats 4000000 in
theorem w_klisterkit_Equal_target_Sheet (p0 : List T_target_Sheet) (pA0 : Option Addr) (pc0 : Nat) (p1 : List T_target_Sheet) (pA1 : Option Addr) (pc1 : Nat) (w : World) (φ : PHeap) (hS : St ⟨w, [], φ⟩ φ [] w) (ha0 : Sl φ 4 pA0 pc0 p0.length (List.flatMap encT_target_Sheet p0)) (ha1 : Sl φ 4 pA1 pc1 p1.length (List.flatMap encT_target_Sheet p1)) {r : Bool} (hm : m_klisterkit_Equal_target_Sheet p0 p1 = some r) : Gv Try.prog 30 [.slice pA0 p0.length pc0, .slice pA1 p1.length pc1] w (RetS w [] φ (fun φ_ L_ v => v = .bool r ∧ L_ = [])) := by
  unfold m_klisterkit_Equal_target_Sheet at hm
  refine Gv.of Try.func30 rfl Try.ntmps30 Try.results30 rfl ?_
  refine CK.seq ?_
  refine CK.reg (ks := []) (.fl 0 (.nil)) rfl ?_
  refine OKS.r rfl rfl rfl rfl (fun _ => Runs.as rfl rfl) ?_
  refine OKS.e ?_
  refine thenQ_n ?_
  refine CK.seq ?_
  refine CK.seq ?_
  refine CK.reg (ks := []) (.fl 0 (.fl 1 (.fl 2 (.fl 3 (.fl 4 (.nil)))))) rfl ?_
  refine OKS.r rfl rfl rfl rfl (fun _ => Runs.mv rfl rfl) ?_
  refine OKS.r rfl rfl rfl rfl (fun _ => Runs.len rfl rfl Try.runUnderlying24) ?_
  refine OKS.r rfl rfl rfl rfl (fun _ => Runs.mv rfl rfl) ?_
  refine OKS.r rfl rfl rfl rfl (fun _ => Runs.len rfl rfl Try.runUnderlying24) ?_
  refine OKS.r rfl rfl rfl rfl (fun _ => Runs.neq rfl rfl rfl) ?_
  refine OKS.e ?_
  refine thenQ_n ?_
  by_cases c1 : (↑p0.length : Int) = (↑p1.length : Int)
  · have hm2 := hm; rw [if_pos c1] at hm2; replace c1 := Hid.mk c1
    refine CK.condF (decF (fun h => h c1.out)) ?_
    refine CK.skip ?_
    refine thenQ_n ?_
    refine CK.seq ?_
    refine CK.seq ?_
    refine CK.reg (ks := []) (.fl 0 (.fl 1 (.fl 2 (.nil)))) rfl ?_
    refine OKS.r rfl rfl rfl rfl (fun _ => Runs.mv rfl rfl) ?_
    refine OKS.r rfl rfl rfl rfl (fun _ => Runs.len rfl rfl Try.runUnderlying24) ?_
    refine OKS.r rfl rfl rfl rfl (fun _ => Runs.mv rfl rfl) ?_
    refine OKS.e ?_
    refine thenQ_n ?_
    refine CK.block ?_
    obtain ⟨r5, hX6⟩ := jn_some hm2
    obtain ⟨hle7, hf8⟩ := forR_le hX6
    replace hle7 := Hid.mk hle7
    refine CK.forN (fun k4 _ σ_ w_ => ∃ (φ_ : PHeap), σ_ 13 = .int .i64 (↑k4 : Int) ∧ σ_ 0 = .slice pA0 p0.length pc0 ∧ σ_ 1 = .slice pA1 p1.length pc1 ∧ σ_ 12 = .int .i64 (↑p0.length : Int) ∧ PHeap.Le φ φ_ ∧ St ⟨w, [], φ⟩ φ_ [] w_) hf8 ?_ ?_ ?_
    · exact ⟨φ, rfl, rfl, rfl, rfl, (PHeap.Le.refl _), hS⟩
    · rintro k4 ⟨⟩ xx11 σ9 W10 hk14 ⟨φ16, fi15, f19, f20, f21, le17, hS18⟩ hx12 hb13
      try dsimp only at hx12
      have c22 : Hid ((↑k4 : Int) < (↑p0.length : Int)) := Hid.mk (lp_lt0 hk14)
      replace hk14 := Hid.mk hk14
      have hi23 : Hid (w64 ((↑k4 : Int) + 1) = (↑(k4 + 1) : Int)) := Hid.mk (by have h1 := hle7.out; have h2 := c22.out; rw [w64_in] <;> omega)
      refine CK.seq ?_
      refine CK.reg (ks := []) (.fl 0 (.nil)) rfl ?_
      refine OKS.r rfl rfl rfl rfl (fun _ => Runs.lss rfl fi15 f21) ?_
      refine OKS.e ?_
      refine thenQ_n ?_
      refine CK.seq ?_
      refine CK.condT (decT c22.out) ?_
      refine CK.skip ?_
      refine thenQ_n ?_
      refine CK.seq ?_
      refine CK.block ?_
      refine CK.seq ?_
      refine CK.reg (ks := []) (.fl 0 (.fl 1 (.nil))) rfl ?_
      refine OKS.r rfl rfl rfl rfl (fun _ => Runs.mv rfl fi15) ?_
      refine OKS.r rfl rfl rfl rfl (fun _ => Runs.as rfl rfl) ?_
      refine OKS.e ?_
      refine thenQ_n ?_
      refine CK.seq ?_
      refine CK.anyOrd Try.mixed [3, 3, 3, 1, 3, 3, 3, 1, 3] (.fl 0 (.fl 1 (.fl 2 (.fl 3 (.fl 4 (.fl 5 (.fl 6 (.fl 7 (.fl 8 (.nil)))))))))) (by kernel_rfl) ?_
      have hS24 := hS18.drew
      generalize hw_W25 : ({ W10 with drawn := W10.drawn + 1 } : World) = W25 at hS24 ⊢
      refine OKS.r rfl rfl rfl rfl (fun _ => Runs.mv rfl f19) ?_
      refine OKS.r rfl rfl rfl rfl (fun _ => Runs.mv rfl rfl) ?_
      obtain ⟨x26, h27, hm28⟩ := bnd hx12
      have h29 := ha0.le le17
      obtain ⟨b30, off31, hA32, hC33⟩ := h29.el (fun _ => rfl) (idx_get h27)
      refine OKS.r rfl rfl rfl rfl (fun _ => Runs.iaN rfl rfl hA32 rfl Try.runUnderlying24 Try.sizeOf33 (idx_lt h27)) ?_
      refine OKS.m rfl rfl rfl rfl (hS24.ldCA (f := 0) hC33 rfl rfl Try.isAgg33 Try.sizeOf33 (us := [.int .i64 x26.From, .int .i64 x26.To, .int .i64 x26.Loops.Lo, .int .i64 x26.Loops.Hi]) rfl rfl) rfl ?_
      refine OKS.r rfl rfl rfl rfl (fun _ => Runs.mv rfl f20) ?_
      refine OKS.r rfl rfl rfl rfl (fun _ => Runs.mv rfl rfl) ?_
      obtain ⟨x34, h35, hm36⟩ := bnd hm28
      have h37 := ha1.le le17
      obtain ⟨b38, off39, hA40, hC41⟩ := h37.el (fun _ => rfl) (idx_get h35)
      refine OKS.r rfl rfl rfl rfl (fun _ => Runs.iaN rfl rfl hA40 rfl Try.runUnderlying24 Try.sizeOf33 (idx_lt h35)) ?_
      refine OKS.m rfl rfl rfl rfl (hS24.ldCA (f := 0) hC41 rfl rfl Try.isAgg33 Try.sizeOf33 (us := [.int .i64 x34.From, .int .i64 x34.To, .int .i64 x34.Loops.Lo, .int .i64 x34.Loops.Hi]) rfl rfl) rfl ?_
      refine OKS.r rfl rfl rfl rfl (fun _ => Runs.to (Runs.neS (enc := encT_target_Sheet) (a := x26) (b := x34) rfl rfl rfl eqT33 eqG33) (congrArg Value.bool (decide_not).symm)) ?_
      refine OKS.e ?_
      refine thenQ_n ?_
      by_cases c42 : x26 = x34
      · have hm43 := hm36; rw [if_pos c42] at hm43; replace c42 := Hid.mk c42
        refine CK.condF (decF (fun h => h c42.out)) ?_
        refine CK.skip ?_
        refine blockQ_n ?_
        refine thenQ_n ?_
        refine CK.reg (ks := []) (.fl 0 (.fl 1 (.nil))) rfl ?_
        refine OKS.r rfl rfl rfl rfl (fun _ => Runs.to (Runs.addw rfl fi15 rfl) (congrArg (Value.int .i64) hi23.out)) ?_
        refine OKS.r rfl rfl rfl rfl (fun _ => Runs.mv rfl rfl) ?_
        refine OKS.e ?_
        obtain rfl := Option.some.inj hm43
        exact thenQ_n ⟨rfl, _, rfl, ⟨φ16, rfl, f19, f20, f21, le17, hS24⟩⟩
      · have hm44 := hm36; rw [if_neg c42] at hm44; replace c42 := Hid.mk c42
        refine CK.condT (decT c42.out) ?_
        refine CK.seq ?_
        refine CK.reg (ks := []) (.fl 0 (.nil)) rfl ?_
        refine OKS.r rfl rfl rfl rfl (fun _ => Runs.as rfl rfl) ?_
        refine OKS.e ?_
        refine thenQ_n ?_
        refine CK.ret ?_
        refine blockQ_r ?_
        refine thenQ_r ?_
        obtain ⟨v45, hm46, e47⟩ := esc_spec hm44
        obtain rfl := jn_inr hm2 hX6 (hb13 v45 e47)
        refine thenQ_r ?_
        refine blockQ_r ?_
        refine thenQ_r ?_
        cases hm46
        exact ⟨rfl, _, (res1 rfl), φ16, _, hS24, rfl, rfl⟩
    · rintro ⟨⟩ σ48 W49 ⟨φ52, fi51, f55, f56, f57, le53, hS54⟩ hb50
      have hm58 := jn_inl hm2 hX6 hb50
      try dsimp only at hm58
      have c59 : Hid (¬ ((↑(((↑p0.length : Int) : Int) - 0).toNat : Int) < (↑p0.length : Int))) := Hid.mk (lp_end0)
      refine CK.seq ?_
      refine CK.reg (ks := []) (.fl 0 (.nil)) rfl ?_
      refine OKS.r rfl rfl rfl rfl (fun _ => Runs.lss rfl fi51 f57) ?_
      refine OKS.e ?_
      refine thenQ_n ?_
      refine CK.seq ?_
      refine CK.condF (decF c59.out) ?_
      refine CK.exit ?_
      refine thenQ_e ?_
      refine thenQ_e ?_
      refine blockQ_h ?_
      refine thenQ_n ?_
      refine CK.seq ?_
      refine CK.reg (ks := []) (.fl 0 (.nil)) rfl ?_
      refine OKS.r rfl rfl rfl rfl (fun _ => Runs.as rfl rfl) ?_
      refine OKS.e ?_
      refine thenQ_n ?_
      refine CK.ret ?_
      cases hm58
      exact ⟨rfl, _, (res1 rfl), φ52, _, hS54, rfl, rfl⟩
  · have hm60 := hm; rw [if_neg c1] at hm60; replace c1 := Hid.mk c1
    refine CK.condT (decT c1.out) ?_
    refine CK.seq ?_
    refine CK.reg (ks := []) (.fl 0 (.nil)) rfl ?_
    refine OKS.r rfl rfl rfl rfl (fun _ => Runs.as rfl rfl) ?_
    refine OKS.e ?_
    refine thenQ_n ?_
    refine CK.ret ?_
    refine thenQ_r ?_
    cases hm60
    exact ⟨rfl, _, (res1 rfl), φ, _, hS, rfl, rfl⟩

set_option maxHeartbeats 4000000 in
theorem w_klisterlaw03_TargetSheets (p0 : Int) (p1 : List T_target_Sheet) (pA1 : Option Addr) (pc1 : Nat) (p2 : Int) (p3 : Int) (w : World) (φ : PHeap) (hS : St ⟨w, [], φ⟩ φ [] w) (ha0 : Sl φ 4 pA1 pc1 p1.length (List.flatMap encT_target_Sheet p1)) {r : Bool} (hm : m_klisterlaw03_TargetSheets p0 p1 p2 p3 = some r) : Gv Try.prog 4 [.int .i64 p0, .slice pA1 p1.length pc1, .int .i64 p2, .int .i64 p3] w (RetS w [] φ (fun φ_ L_ v => v = .bool r ∧ L_ = [])) := by
  unfold m_klisterlaw03_TargetSheets at hm
  refine Gv.of Try.func4 rfl Try.ntmps4 Try.results4 rfl ?_
  refine CK.seq ?_
  refine CK.reg (ks := []) (.fl 0 (.nil)) rfl ?_
  refine OKS.r rfl rfl rfl rfl (fun _ => Runs.as rfl rfl) ?_
  refine OKS.e ?_
  refine thenQ_n ?_
  refine CK.seq ?_
  obtain ⟨b1, hx3, hm4⟩ := bnd hm
  refine CK.cut (fun σ_ w_ => ∃ (φ_ : PHeap), σ_ 0 = .int .i64 p0 ∧ σ_ 1 = .slice pA1 p1.length pc1 ∧ σ_ 2 = .int .i64 p2 ∧ σ_ 3 = .int .i64 p3 ∧ σ_ 30 = .bool b1 ∧ PHeap.Le φ φ_ ∧ St ⟨w, [], φ⟩ φ_ [] w_) ?_ ?_
  · refine CK.reg (ks := []) (.fl 0 (.fl 1 (.fl 2 (.fl 3 (.fl 4 (.fl 5 (.fl 6 (.fl 7 (.fl 8 (.fl 9 (.fl 10 (.nil)))))))))))) rfl ?_
    refine OKS.r rfl rfl rfl rfl (fun _ => Runs.mv rfl rfl) ?_
    refine OKS.r rfl rfl rfl rfl (fun _ => Runs.gtr rfl rfl rfl) ?_
    refine OKS.r rfl rfl rfl rfl (fun _ => Runs.mv rfl rfl) ?_
    by_cases c5 : 3 < p0
    · have hm6 := hx3; rw [if_pos c5] at hm6; replace c5 := Hid.mk c5
      refine OKS.r rfl rfl rfl (wantedY rfl rfl (decT c5.out)) (fun _ => Runs.mv rfl rfl) ?_
      refine OKS.r rfl rfl rfl (wantedY rfl rfl (decT c5.out)) (fun _ => Runs.leq rfl rfl rfl) ?_
      refine OKS.r rfl rfl rfl rfl (fun _ => Runs.pickT rfl (decT c5.out) rfl) ?_
      refine OKS.r rfl rfl rfl rfl (fun _ => Runs.mv rfl rfl) ?_
      by_cases c7 : p0 ≤ 8
      · have hm8 := hm6; rw [if_pos c7] at hm8; replace c7 := Hid.mk c7
        refine OKS.p rfl rfl rfl (wantedN rfl rfl (decT c7.out) rfl) ?_
        refine OKS.p rfl rfl rfl (wantedN rfl rfl (decT c7.out) rfl) ?_
        refine OKS.p rfl rfl rfl (wantedN rfl rfl (decT c7.out) rfl) ?_
        refine OKS.r rfl rfl rfl rfl (fun _ => Runs.pickT rfl (decT c7.out) rfl) ?_
        refine OKS.e ?_
        cases hm8
        exact thenQ_n ⟨rfl, ⟨φ, rfl, rfl, rfl, rfl, rfl, (PHeap.Le.refl _), hS⟩⟩
      · have hm10 := hm6; rw [if_neg c7] at hm10; replace c7 := Hid.mk c7
        refine OKS.r rfl rfl rfl (wantedY rfl rfl (decF c7.out)) (fun _ => Runs.mv rfl rfl) ?_
        refine OKS.r rfl rfl rfl (wantedY rfl rfl (decF c7.out)) (fun _ => Runs.len rfl rfl Try.runUnderlying24) ?_
        refine OKS.r rfl rfl rfl (wantedY rfl rfl (decF c7.out)) (fun _ => Runs.gtr rfl rfl rfl) ?_
        refine OKS.r rfl rfl rfl rfl (fun _ => Runs.pickF rfl (decF c7.out) rfl) ?_
        refine OKS.e ?_
        cases hm10
        exact thenQ_n ⟨rfl, ⟨φ, rfl, rfl, rfl, rfl, rfl, (PHeap.Le.refl _), hS⟩⟩
    · have hm12 := hx3; rw [if_neg c5] at hm12; replace c5 := Hid.mk c5
      refine OKS.p rfl rfl rfl (wantedN rfl rfl (decF c5.out) rfl) ?_
      refine OKS.p rfl rfl rfl (wantedN rfl rfl (decF c5.out) rfl) ?_
      refine OKS.r rfl rfl rfl rfl (fun _ => Runs.pickF rfl (decF c5.out) rfl) ?_
      refine OKS.r rfl rfl rfl rfl (fun _ => Runs.mv rfl rfl) ?_
      refine OKS.r rfl rfl rfl (wantedY rfl rfl rfl) (fun _ => Runs.mv rfl rfl) ?_
      refine OKS.r rfl rfl rfl (wantedY rfl rfl rfl) (fun _ => Runs.len rfl rfl Try.runUnderlying24) ?_
      refine OKS.r rfl rfl rfl (wantedY rfl rfl rfl) (fun _ => Runs.gtr rfl rfl rfl) ?_
      refine OKS.r rfl rfl rfl rfl (fun _ => Runs.pickF rfl rfl rfl) ?_
      refine OKS.e ?_
      cases hm12
      exact thenQ_n ⟨rfl, ⟨φ, rfl, rfl, rfl, rfl, rfl, (PHeap.Le.refl _), hS⟩⟩
  · rintro σ14 W15 ⟨φ16, f19, f20, f21, f22, f23, le17, hS18⟩
    by_cases c24 : b1 = true
    · have hm25 := hm4; rw [if_pos c24] at hm25; replace c24 := Hid.mk c24
      refine CK.condT (f23.trans (congrArg Value.bool c24.out)) ?_
      refine CK.seq ?_
      refine CK.reg (ks := []) (.fx 0 (.fl 1 (.nil)) .stop) rfl ?_
      obtain ⟨x26, h27, hm28⟩ := bnd hm25
      refine OKS.callH 0 rfl rfl rfl rfl (Enters.mk rfl rfl Try.call24 mapnil rfl) hS18 (fun hs => w_klisterlaw03_awake W15 φ16 hs h27) (.inr rfl) ?_
      rintro φ29 L30 v31 W32 le33 hS34 ⟨rfl, rfl⟩
      have hS35 : St ⟨w, [], φ⟩ φ29 [] W32 := hS34
      refine OKS.r rfl rfl rfl rfl (fun _ => Runs.as rfl rfl) ?_
      refine OKS.e ?_
      refine thenQ_n ?_
      refine CK.ret ?_
      refine thenQ_r ?_
      cases hm28
      exact ⟨rfl, _, (res1 rfl), φ29, _, hS35, rfl, rfl⟩
    · have hm36 := hm4; rw [if_neg c24] at hm36; replace c24 := Hid.mk c24
      refine CK.condF (f23.trans (congrArg Value.bool (Bool.eq_false_iff.2 c24.out))) ?_
      refine CK.skip ?_
      refine thenQ_n ?_
      refine CK.seq ?_
      refine CK.reg (ks := []) (.fl 0 (.fx 1 (.fl 2 (.fx 3 (.fl 4 (.fl 5 (.nil))) .stop)) .stop)) rfl ?_
      refine OKS.r rfl rfl rfl rfl (fun _ => Runs.mv rfl f20) ?_
      have h37 := ha0.le le17
      obtain ⟨x38, h39, hm40⟩ := bnd hm36
      refine OKS.callH 0 rfl rfl rfl rfl (Enters.mk rfl rfl Try.call16 (mapcons rfl mapnil) rfl) hS18 (fun hs => w_klisterkit_Clone_target_Sheet p1 pA1 pc1 W15 φ16 hs h37 h39) (.inr rfl) ?_
      rintro φ41 L42 v43 W44 le45 hS46 ⟨A47, c48, rfl, rfl⟩
      have hS50 : St ⟨w, [], φ⟩ φ41 [.row A47 c48 33 4 (List.flatMap encT_target_Sheet x38)] W44 := hS46
      refine OKS.r rfl rfl rfl rfl (fun _ => Runs.mv rfl f20) ?_
      have h51 := h37.le le45
      obtain ⟨x52, h53, hm54⟩ := bnd hm40
      refine OKS.callH 0 rfl rfl rfl rfl (Enters.mk rfl rfl Try.call25 (mapcons rfl mapnil) rfl) hS50 (fun hs => w_klisterlaw03_Sheets p1 pA1 pc1 W44 φ41 hs h51 h53) (.inr rfl) ?_
      rintro φ55 L56 v57 W58 le59 hS60 ⟨A61, c62, rfl, rfl⟩
      have hS64 : St ⟨w, [], φ⟩ φ55 [.row A61 c62 148 4 (List.flatMap encT_klisterref03_Sheet x52), .row A47 c48 33 4 (List.flatMap encT_target_Sheet x38)] W58 := hS60
      refine OKS.r rfl rfl rfl rfl (fun _ => Runs.as rfl rfl) ?_
      refine OKS.r rfl rfl rfl rfl (fun _ => Runs.as rfl rfl) ?_
      refine OKS.e ?_
      refine thenQ_n ?_
      refine CK.seq ?_
      refine CK.reg (ks := []) (.fl 0 (.fl 1 (.fx 2 (.fl 3 (.nil)) .stop))) rfl ?_
      refine OKS.r rfl rfl rfl rfl (fun _ => Runs.mv rfl f19) ?_
      refine OKS.r rfl rfl rfl rfl (fun _ => Runs.mv rfl rfl) ?_
      obtain ⟨φ65, le66, hs67, hS68⟩ := hS64.freezeR (k := 0) (n := x52.length) rfl (flatMap_len (f := encT_klisterref03_Sheet) (sz := 4) (fun _ => rfl) x52) (by decide)
      have hS69 : St ⟨w, [], φ⟩ φ65 [.row A47 c48 33 4 (List.flatMap encT_target_Sheet x38)] W58 := hS68
      obtain ⟨x70, h71, hm72⟩ := bnd hm54
      refine OKS.callH 0 rfl rfl rfl rfl (Enters.mk rfl rfl Try.call26 (mapcons rfl (mapcons rfl mapnil)) rfl) hS69 (fun hs => w_klisterref03_CheckSheets p0 x52 A61 c62 W58 φ65 hs hs67 h71) (.inr rfl) ?_
      rintro φ73 L74 v75 W76 le77 hS78 ⟨rfl, rfl⟩
      have hS79 : St ⟨w, [], φ⟩ φ73 [.row A47 c48 33 4 (List.flatMap encT_target_Sheet x38)] W76 := hS78
      refine OKS.r rfl rfl rfl rfl (fun _ => Runs.as rfl rfl) ?_
      refine OKS.e ?_
      refine thenQ_n ?_
      refine CK.seq ?_
      refine CK.seq ?_
      refine CK.reg (ks := []) (.fl 0 (.fl 1 (.fx 2 (.fl 3 (.fl 4 (.nil))) .stop))) rfl ?_
      refine OKS.r rfl rfl rfl rfl (fun _ => Runs.mv rfl f19) ?_
      refine OKS.r rfl rfl rfl rfl (fun _ => Runs.mv rfl rfl) ?_
      obtain ⟨φ80, le81, hs82, hS83⟩ := hS79.freezeR (k := 0) (n := x38.length) rfl (flatMap_len (f := encT_target_Sheet) (sz := 4) (fun _ => rfl) x38) (by decide)
      have hS84 : St ⟨w, [], φ⟩ φ80 [] W76 := hS83
      obtain ⟨x85, h86, hm87⟩ := bnd hm72
      refine OKS.callH 0 rfl rfl rfl rfl (Enters.mk rfl rfl Try.call27 (mapcons rfl (mapcons rfl mapnil)) rfl) hS84 (fun hs => w_target_CheckSheets p0 x38 A47 c48 W76 φ80 hs hs82 h86) (.inr rfl) ?_
      rintro φ88 L89 v90 W91 le92 hS93 ⟨rfl, rfl⟩
      have hS94 : St ⟨w, [], φ⟩ φ88 [] W91 := hS93
      refine OKS.r rfl rfl rfl rfl (fun _ => Runs.mv rfl rfl) ?_
      refine OKS.r rfl rfl rfl rfl (fun _ => Runs.neq rfl rfl rfl) ?_
      refine OKS.e ?_
      refine thenQ_n ?_
      by_cases c95 : x85 = x70
      · have hm96 := hm87; rw [if_pos c95] at hm96; replace c95 := Hid.mk c95
        refine CK.condF (decF (fun h => h c95.out)) ?_
        refine CK.skip ?_
        refine thenQ_n ?_
        refine CK.seq ?_
        refine CK.reg (ks := []) (.fl 0 (.fl 1 (.fl 2 (.fl 3 (.fx 4 (.fl 5 (.fl 6 (.fl 7 (.fx 8 (.fx 9 (.fl 10 (.nil)) .stop) .stop)))) .stop))))) rfl ?_
        refine OKS.r rfl rfl rfl rfl (fun _ => Runs.mv rfl f19) ?_
        refine OKS.r rfl rfl rfl rfl (fun _ => Runs.mv rfl rfl) ?_
        refine OKS.r rfl rfl rfl rfl (fun _ => Runs.mv rfl f21) ?_
        refine OKS.r rfl rfl rfl rfl (fun _ => Runs.mv rfl f22) ?_
        have h97 := hs82.le le92
        obtain ⟨⟨x98, x99⟩, h100, hm101⟩ := bnd hm96
        try dsimp only at hm101
        refine OKS.callH 0 rfl rfl rfl rfl (Enters.mk rfl rfl Try.call28 (mapcons rfl (mapcons rfl (mapcons rfl (mapcons rfl mapnil)))) rfl) hS94 (fun hs => w_target_Between p0 x38 A47 c48 p2 p3 W91 φ88 hs h97 h100) (.inr rfl) ?_
        rintro φ102 L103 v104 W105 le106 hS107 ⟨rfl, rfl⟩
        have hS108 : St ⟨w, [], φ⟩ φ102 [] W105 := hS107
        refine OKS.r rfl rfl rfl rfl (fun _ => Runs.mv rfl rfl) ?_
        refine OKS.r rfl rfl rfl rfl (fun _ => Runs.ext rfl rfl (v := .agg #[.int .i64 x98.Lo, .int .i64 x98.Hi]) rfl) ?_
        refine OKS.r rfl rfl rfl rfl (fun _ => Runs.ext rfl rfl (v := .int .i64 x99) rfl) ?_
        refine OKS.alloc (cs := [.int .i64 0, .int .i64 0]) rfl rfl rfl rfl rfl Try.zeroValue31 rfl hS108 ?_
        intro W109 b110 hS111
        refine OKS.st (j := 0) (vs := [.int .i64 x98.Lo, .int .i64 x98.Hi]) rfl rfl rfl rfl hS111 rfl rfl rfl rfl Try.sizeOf31 (Nat.le_of_ble_eq_true rfl) rfl rfl rfl ?_
        intro W113 hS114
        have hS115 : St ⟨w, [], φ⟩ φ102 [.blk b110 31 [.int .i64 x98.Lo, .int .i64 x98.Hi]] W113 := hS114
        refine OKS.r rfl rfl rfl rfl (fun _ => Runs.as rfl rfl) ?_
        refine OKS.e ?_
        refine thenQ_n ?_
        refine CK.seq ?_
        refine CK.reg (ks := []) (.fl 0 (.fl 1 (.fl 2 (.fl 3 (.fx 4 (.fl 5 (.fl 6 (.fl 7 (.fx 8 (.fx 9 (.fl 10 (.nil)) .stop) .stop)))) .stop))))) rfl ?_
        refine OKS.r rfl rfl rfl rfl (fun _ => Runs.mv rfl f19) ?_
        refine OKS.r rfl rfl rfl rfl (fun _ => Runs.mv rfl rfl) ?_
        refine OKS.r rfl rfl rfl rfl (fun _ => Runs.mv rfl f21) ?_
        refine OKS.r rfl rfl rfl rfl (fun _ => Runs.mv rfl f22) ?_
        have h116 := hs67.le le77
        have h117 := h116.le le81
        have h118 := h117.le le92
        have h119 := h118.le le106
        obtain ⟨⟨x120, x121⟩, h122, hm123⟩ := bnd hm101
        try dsimp only at hm123
        refine OKS.callH 0 rfl rfl rfl rfl (Enters.mk rfl rfl Try.call29 (mapcons rfl (mapcons rfl (mapcons rfl (mapcons rfl mapnil)))) rfl) hS115 (fun hs => w_klisterref03_Between p0 x52 A61 c62 p2 p3 W113 φ102 hs h119 h122) (.inr rfl) ?_
        rintro φ124 L125 v126 W127 le128 hS129 ⟨rfl, rfl⟩
        have hS130 : St ⟨w, [], φ⟩ φ124 [.blk b110 31 [.int .i64 x98.Lo, .int .i64 x98.Hi]] W127 := hS129
        refine OKS.r rfl rfl rfl rfl (fun _ => Runs.mv rfl rfl) ?_
        refine OKS.r rfl rfl rfl rfl (fun _ => Runs.ext rfl rfl (v := .agg #[.int .i64 x120.Lo, .int .i64 x120.Hi]) rfl) ?_
        refine OKS.r rfl rfl rfl rfl (fun _ => Runs.ext rfl rfl (v := .int .i64 x121) rfl) ?_
        refine OKS.alloc (cs := [.int .i64 0, .int .i64 0]) rfl rfl rfl rfl rfl Try.zeroValue31 rfl hS130 ?_
        intro W131 b132 hS133
        refine OKS.st (j := 0) (vs := [.int .i64 x120.Lo, .int .i64 x120.Hi]) rfl rfl rfl rfl hS133 rfl rfl rfl rfl Try.sizeOf31 (Nat.le_of_ble_eq_true rfl) rfl rfl rfl ?_
        intro W135 hS136
        have hS137 : St ⟨w, [], φ⟩ φ124 [.blk b132 31 [.int .i64 x120.Lo, .int .i64 x120.Hi], .blk b110 31 [.int .i64 x98.Lo, .int .i64 x98.Hi]] W135 := hS136
        refine OKS.r rfl rfl rfl rfl (fun _ => Runs.as rfl rfl) ?_
        refine OKS.e ?_
        refine thenQ_n ?_
        refine CK.seq ?_
        refine CK.seq ?_
        refine CK.reg (ks := []) (.fl 0 (.fl 1 (.fl 2 (.fl 3 (.fl 4 (.fl 5 (.fl 6 (.fl 7 (.nil))))))))) rfl ?_
        refine OKS.m rfl rfl rfl rfl (hS137.ldBA (j := 1) rfl rfl rfl Try.isAgg31 Try.sizeOf31 (vs := [.int .i64 x98.Lo, .int .i64 x98.Hi]) rfl rfl) rfl ?_
        refine OKS.m rfl rfl rfl rfl (hS137.ldBA (j := 0) rfl rfl rfl Try.isAgg31 Try.sizeOf31 (vs := [.int .i64 x120.Lo, .int .i64 x120.Hi]) rfl rfl) rfl ?_
        refine OKS.r rfl rfl rfl rfl (fun _ => Runs.to (Runs.neS (enc := encT_api_Span) (a := x98) (b := x120) rfl rfl rfl eqT31 eqG31) (congrArg Value.bool (decide_not).symm)) ?_
        refine OKS.r rfl rfl rfl rfl (fun _ => Runs.mv rfl rfl) ?_
        by_cases c138 : x98 = x120
        · have hm139 := hm123; rw [if_pos c138] at hm139; replace c138 := Hid.mk c138
          refine OKS.r rfl rfl rfl (wantedY rfl rfl (decF (fun h => h c138.out))) (fun _ => Runs.mv rfl rfl) ?_
          refine OKS.r rfl rfl rfl (wantedY rfl rfl (decF (fun h => h c138.out))) (fun _ => Runs.mv rfl rfl) ?_
          refine OKS.r rfl rfl rfl (wantedY rfl rfl (decF (fun h => h c138.out))) (fun _ => Runs.neq rfl rfl rfl) ?_
          refine OKS.r rfl rfl rfl rfl (fun _ => Runs.pickF rfl (decF (fun h => h c138.out)) rfl) ?_
          refine OKS.e ?_
          refine thenQ_n ?_
          by_cases c140 : x99 = x121
          · have hm141 := hm139; rw [if_pos c140] at hm141; replace c140 := Hid.mk c140
            refine CK.condF (decF (fun h => h c140.out)) ?_
            refine CK.skip ?_
            refine thenQ_n ?_
            refine CK.seq ?_
            refine CK.fresh fun σ142 hσ143 => ?_
            have f144 : σ142 0 = .int .i64 p0 := (hσ143 0).trans f19
            have f145 : σ142 1 = .slice pA1 p1.length pc1 := (hσ143 1).trans f20
            have f146 : σ142 9 = .slice A47 x38.length c48 := (hσ143 9).trans rfl
            have f147 : σ142 10 = .slice A61 x52.length c62 := (hσ143 10).trans rfl
            have f148 : σ142 11 = .int .i64 x70 := (hσ143 11).trans rfl
            have f149 : σ142 13 = .int .i64 x99 := (hσ143 13).trans rfl
            clear hσ143
            refine CK.reg (ks := []) (.fl 0 (.fl 1 (.fx 2 (.fl 3 (.fl 4 (.fl 5 (.fl 6 (.fl 7 (.nil)))))) .stop))) rfl ?_
            refine OKS.r rfl rfl rfl rfl (fun _ => Runs.mv rfl f144) ?_
            refine OKS.r rfl rfl rfl rfl (fun _ => Runs.mv rfl f146) ?_
            have h150 := h97.le le106
            have h151 := h150.le le128
            obtain ⟨⟨x152, x153⟩, h154, hm155⟩ := bnd hm141
            try dsimp only at hm155
            refine OKS.callH 0 rfl rfl rfl rfl (Enters.mk rfl rfl Try.call21 (mapcons rfl (mapcons rfl mapnil)) rfl) hS137 (fun hs => w_target_Skied p0 x38 A47 c48 W135 φ124 hs h151 h154) (.inr rfl) ?_
            rintro φ156 L157 v158 W159 le160 hS161 ⟨A162, c163, rfl, rfl⟩
            have hS165 : St ⟨w, [], φ⟩ φ156 [.row A162 c163 31 2 (List.flatMap encT_api_Span x152), .blk b132 31 [.int .i64 x120.Lo, .int .i64 x120.Hi], .blk b110 31 [.int .i64 x98.Lo, .int .i64 x98.Hi]] W159 := hS161
            refine OKS.r rfl rfl rfl rfl (fun _ => Runs.mv rfl rfl) ?_
            refine OKS.r rfl rfl rfl rfl (fun _ => Runs.ext rfl rfl (v := .slice A162 x152.length c163) rfl) ?_
            refine OKS.r rfl rfl rfl rfl (fun _ => Runs.ext rfl rfl (v := .int .i64 x153) rfl) ?_
            refine OKS.r rfl rfl rfl rfl (fun _ => Runs.as rfl rfl) ?_
            refine OKS.r rfl rfl rfl rfl (fun _ => Runs.as rfl rfl) ?_
            refine OKS.e ?_
            refine thenQ_n ?_
            refine CK.seq ?_
            refine CK.seq ?_
            refine CK.reg (ks := []) (.fl 0 (.fl 1 (.nil))) rfl ?_
            refine OKS.r rfl rfl rfl rfl (fun _ => Runs.mv rfl f148) ?_
            refine OKS.r rfl rfl rfl rfl (fun _ => Runs.neq rfl rfl rfl) ?_
            refine OKS.e ?_
            refine thenQ_n ?_
            by_cases c166 : x70 = 0
            · have hm167 := hm155; rw [if_pos c166] at hm167; replace c166 := Hid.mk c166
              refine CK.condF (decF (fun h => h c166.out)) ?_
              refine CK.skip ?_
              refine thenQ_n ?_
              refine CK.seq ?_
              refine CK.seq ?_
              refine CK.reg (ks := []) (.fl 0 (.fl 1 (.nil))) rfl ?_
              refine OKS.r rfl rfl rfl rfl (fun _ => Runs.mv rfl f144) ?_
              refine OKS.r rfl rfl rfl rfl (fun _ => Runs.mv rfl rfl) ?_
              refine OKS.e ?_
              refine thenQ_n ?_
              refine CK.block ?_
              obtain ⟨r171, hX172⟩ := jn_some hm167
              obtain ⟨hle173, hf174⟩ := forR_le hX172
              replace hle173 := Hid.mk hle173
              refine CK.forN (fun k170 _ σ_ w_ => ∃ (φ_ : PHeap), σ_ 93 = .int .i64 (↑k170 : Int) ∧ σ_ 0 = .int .i64 p0 ∧ σ_ 1 = .slice pA1 p1.length pc1 ∧ σ_ 9 = .slice A47 x38.length c48 ∧ σ_ 10 = .slice A61 x52.length c62 ∧ σ_ 13 = .int .i64 x153 ∧ σ_ 16 = .slice A162 x152.length c163 ∧ σ_ 92 = .int .i64 p0 ∧ PHeap.Le φ156 φ_ ∧ St ⟨w, [], φ⟩ φ_ [.blk b132 31 [.int .i64 x120.Lo, .int .i64 x120.Hi], .blk b110 31 [.int .i64 x98.Lo, .int .i64 x98.Hi], .row A162 c163 31 2 (List.flatMap encT_api_Span x152)] w_) hf174 ?_ ?_ ?_
              · exact ⟨φ156, rfl, f144, f145, f146, f147, rfl, rfl, rfl, (PHeap.Le.refl _), (hS165.pick [1, 2, 0] _ (by decide) rfl)⟩
              · rintro k170 ⟨⟩ xx177 σ175 W176 hk180 ⟨φ182, fi181, f185, f186, f187, f188, f189, f190, f191, le183, hS184⟩ hx178 hb179
                try dsimp only at hx178
                have c192 : Hid ((↑k170 : Int) < p0) := Hid.mk (lp_lt0 hk180)
                replace hk180 := Hid.mk hk180
                have hi193 : Hid (w64 ((↑k170 : Int) + 1) = (↑(k170 + 1) : Int)) := Hid.mk (by have h1 := hle173.out; have h2 := c192.out; rw [w64_in] <;> omega)
                refine CK.seq ?_
                refine CK.reg (ks := []) (.fl 0 (.nil)) rfl ?_
                refine OKS.r rfl rfl rfl rfl (fun _ => Runs.lss rfl fi181 f191) ?_
                refine OKS.e ?_
                refine thenQ_n ?_
                refine CK.seq ?_
                refine CK.condT (decT c192.out) ?_
                refine CK.skip ?_
                refine thenQ_n ?_
                refine CK.seq ?_
                refine CK.block ?_
                refine CK.seq ?_
                refine CK.reg (ks := []) (.fl 0 (.fl 1 (.nil))) rfl ?_
                refine OKS.r rfl rfl rfl rfl (fun _ => Runs.mv rfl fi181) ?_
                refine OKS.r rfl rfl rfl rfl (fun _ => Runs.as rfl rfl) ?_
                refine OKS.e ?_
                refine thenQ_n ?_
                refine CK.seq ?_
                refine CK.reg (ks := []) (.fl 0 (.fl 1 (.fl 2 (.fl 3 (.fx 4 (.fl 5 (.fl 6 (.fl 7 (.fx 8 (.fx 9 (.fl 10 (.nil)) .stop) .stop)))) .stop))))) rfl ?_
                refine OKS.r rfl rfl rfl rfl (fun _ => Runs.mv rfl f185) ?_
                refine OKS.r rfl rfl rfl rfl (fun _ => Runs.mv rfl f188) ?_
                refine OKS.r rfl rfl rfl rfl (fun _ => Runs.mv rfl rfl) ?_
                refine OKS.r rfl rfl rfl rfl (fun _ => Runs.mv rfl rfl) ?_
                have h194 := h119.le le128
                have h195 := h194.le le160
                have h196 := h195.le le183
                obtain ⟨⟨x197, x198⟩, h199, hm200⟩ := bnd hx178
                try dsimp only at hm200
                refine OKS.callH 0 rfl rfl rfl rfl (Enters.mk rfl rfl Try.call29 (mapcons rfl (mapcons rfl (mapcons rfl (mapcons rfl mapnil)))) rfl) hS184 (fun hs => w_klisterref03_Between p0 x52 A61 c62 (↑k170 : Int) (↑k170 : Int) W176 φ182 hs h196 h199) (.inr rfl) ?_
                rintro φ201 L202 v203 W204 le205 hS206 ⟨rfl, rfl⟩
                have hS207 : St ⟨w, [], φ⟩ φ201 [.blk b132 31 [.int .i64 x120.Lo, .int .i64 x120.Hi], .blk b110 31 [.int .i64 x98.Lo, .int .i64 x98.Hi], .row A162 c163 31 2 (List.flatMap encT_api_Span x152)] W204 := hS206
                refine OKS.r rfl rfl rfl rfl (fun _ => Runs.mv rfl rfl) ?_
                refine OKS.r rfl rfl rfl rfl (fun _ => Runs.ext rfl rfl (v := .agg #[.int .i64 x197.Lo, .int .i64 x197.Hi]) rfl) ?_
                refine OKS.r rfl rfl rfl rfl (fun _ => Runs.ext rfl rfl (v := .int .i64 x198) rfl) ?_
                refine OKS.alloc (cs := [.int .i64 0, .int .i64 0]) rfl rfl rfl rfl rfl Try.zeroValue31 rfl hS207 ?_
                intro W208 b209 hS210
                refine OKS.st (j := 0) (vs := [.int .i64 x197.Lo, .int .i64 x197.Hi]) rfl rfl rfl rfl hS210 rfl rfl rfl rfl Try.sizeOf31 (Nat.le_of_ble_eq_true rfl) rfl rfl rfl ?_
                intro W212 hS213
                have hS214 : St ⟨w, [], φ⟩ φ201 [.blk b209 31 [.int .i64 x197.Lo, .int .i64 x197.Hi], .blk b132 31 [.int .i64 x120.Lo, .int .i64 x120.Hi], .blk b110 31 [.int .i64 x98.Lo, .int .i64 x98.Hi], .row A162 c163 31 2 (List.flatMap encT_api_Span x152)] W212 := hS213
                refine OKS.r rfl rfl rfl rfl (fun _ => Runs.as rfl rfl) ?_
                refine OKS.e ?_
                refine thenQ_n ?_
                refine CK.seq ?_
                refine CK.anyOrd Try.mixed [3, 3, 3, 3, 3, 3, 3, 3, 3, 3, 3, 3, 3, 3, 3, 1, 1, 3, 3, 3, 3] (.fl 0 (.fl 1 (.fl 2 (.fl 3 (.fl 4 (.fl 5 (.fl 6 (.fl 7 (.fl 8 (.fl 9 (.fl 10 (.fl 11 (.fl 12 (.fl 13 (.fl 14 (.fl 15 (.fl 16 (.fl 17 (.fl 18 (.fl 19 (.fl 20 (.nil)))))))))))))))))))))) (by kernel_rfl) ?_
                have hS215 := hS214.drew
                generalize hw_W216 : ({ W212 with drawn := W212.drawn + 1 } : World) = W216 at hS215 ⊢
                refine OKS.r rfl rfl rfl rfl (fun _ => Runs.mv rfl f189) ?_
                refine OKS.r rfl rfl rfl rfl (fun _ => Runs.mv rfl rfl) ?_
                refine OKS.r rfl rfl rfl rfl (fun _ => Runs.neq rfl rfl rfl) ?_
                refine OKS.r rfl rfl rfl rfl (fun _ => Runs.mv rfl rfl) ?_
                by_cases c217 : x153 = x198
                · have hm218 := hm200; rw [if_pos c217] at hm218; replace c217 := Hid.mk c217
                  refine OKS.r rfl rfl rfl (wantedY rfl rfl (decF (fun h => h c217.out))) (fun _ => Runs.mv rfl f189) ?_
                  refine OKS.r rfl rfl rfl (wantedY rfl rfl (decF (fun h => h c217.out))) (fun _ => Runs.eql rfl rfl rfl) ?_
                  refine OKS.r rfl rfl rfl (wantedY rfl rfl (decF (fun h => h c217.out))) (fun _ => Runs.mv rfl rfl) ?_
                  by_cases c219 : x153 = 0
                  · have hm220 := hm218; rw [if_pos c219] at hm220; replace c219 := Hid.mk c219
                    refine OKS.r rfl rfl rfl (wantedY rfl rfl (decT c219.out)) (fun _ => Runs.mv rfl f190) ?_
                    refine OKS.r rfl rfl rfl (wantedY rfl rfl (decT c219.out)) (fun _ => Runs.len rfl rfl Try.runUnderlying38) ?_
                    refine OKS.r rfl rfl rfl (wantedY rfl rfl (decT c219.out)) (fun _ => Runs.mv rfl f185) ?_
                    refine OKS.r rfl rfl rfl (wantedY rfl rfl (decT c219.out)) (fun _ => Runs.neq rfl rfl rfl) ?_
                    refine OKS.r rfl rfl rfl (wantedY rfl rfl (decT c219.out)) (fun _ => Runs.mv rfl rfl) ?_
                    by_cases c221 : (↑x152.length : Int) = p0
                    · have hm222 := hm220; rw [if_pos c221] at hm222; replace c221 := Hid.mk c221
                      refine OKS.r rfl rfl rfl (wantedY rfl rfl (decF (fun h => h c221.out))) (fun _ => Runs.mv rfl f190) ?_
                      refine OKS.r rfl rfl rfl (wantedY rfl rfl (decF (fun h => h c221.out))) (fun _ => Runs.mv rfl rfl) ?_
                      obtain ⟨_, h223, hm224⟩ := bnd hm222
                      obtain ⟨b225, hA226⟩ := hS215.rowSome (j := 3) rfl (by rw [flatMap_len (f := encT_api_Span) (sz := 2) (fun _ => rfl) x152]; have hz := chk_lt h223; omega)
                      refine OKS.r rfl rfl rfl (wantedY rfl rfl (decF (fun h => h c221.out))) (fun _ => Runs.iaN rfl rfl hA226 rfl Try.runUnderlying38 Try.sizeOf31 (chk_lt h223)) ?_
                      have hg227 := gd_at (xs := x152) (chk_lt h223)
                      refine OKS.m rfl rfl rfl (wantedY rfl rfl (decF (fun h => h c221.out))) (hS215.ldRA (j := 3) rfl hA226 rfl rfl Try.isAgg31 Try.sizeOf31 (vs := [.int .i64 ((gd x152 k170).Lo), .int .i64 ((gd x152 k170).Hi)]) (flatMap_sub (sz := 2) (fun _ => rfl) _ _ _ hg227 (by omega) rfl) rfl) rfl ?_
                      refine OKS.m rfl rfl rfl (wantedY rfl rfl (decF (fun h => h c221.out))) (hS215.ldBA (j := 0) rfl rfl rfl Try.isAgg31 Try.sizeOf31 (vs := [.int .i64 x197.Lo, .int .i64 x197.Hi]) rfl rfl) rfl ?_
                      refine OKS.r rfl rfl rfl (wantedY rfl rfl (decF (fun h => h c221.out))) (fun _ => Runs.to (Runs.neS (enc := encT_api_Span) (a := (gd x152 k170)) (b := x197) rfl rfl rfl eqT31 eqG31) (congrArg Value.bool (decide_not).symm)) ?_
                      refine OKS.r rfl rfl rfl (wantedY rfl rfl (decT c219.out)) (fun _ => Runs.pickF rfl (decF (fun h => h c221.out)) rfl) ?_
                      refine OKS.r rfl rfl rfl (wantedY rfl rfl (decF (fun h => h c217.out))) (fun _ => Runs.pickT rfl (decT c219.out) rfl) ?_
                      refine OKS.r rfl rfl rfl rfl (fun _ => Runs.pickF rfl (decF (fun h => h c217.out)) rfl) ?_
                      refine OKS.e ?_
                      refine thenQ_n ?_
                      by_cases c228 : (gd x152 k170) = x197
                      · have hm229 := hm224; rw [if_pos c228] at hm229; replace c228 := Hid.mk c228
                        refine CK.condF (decF (fun h => h c228.out)) ?_
                        refine CK.skip ?_
                        refine blockQ_n ?_
                        refine thenQ_n ?_
                        refine CK.reg (ks := []) (.fl 0 (.fl 1 (.nil))) rfl ?_
                        refine OKS.r rfl rfl rfl rfl (fun _ => Runs.to (Runs.addw rfl fi181 rfl) (congrArg (Value.int .i64) hi193.out)) ?_
                        refine OKS.r rfl rfl rfl rfl (fun _ => Runs.mv rfl rfl) ?_
                        refine OKS.e ?_
                        obtain rfl := Option.some.inj hm229
                        exact thenQ_n ⟨rfl, _, rfl, ⟨φ201, rfl, f185, f186, f187, f188, f189, f190, f191, (le183.trans le205), (hS215.pick [1, 2, 3] _ (by decide) rfl)⟩⟩
                      · have hm230 := hm224; rw [if_neg c228] at hm230; replace c228 := Hid.mk c228
                        refine CK.condT (decT c228.out) ?_
                        refine CK.seq ?_
                        refine CK.reg (ks := []) (.fl 0 (.nil)) rfl ?_
                        refine OKS.r rfl rfl rfl rfl (fun _ => Runs.as rfl rfl) ?_
                        refine OKS.e ?_
                        refine thenQ_n ?_
                        refine CK.ret ?_
                        refine blockQ_r ?_
                        refine thenQ_r ?_
                        obtain ⟨v231, hm232, e233⟩ := esc_spec hm230
                        obtain rfl := jn_inr hm167 hX172 (hb179 v231 e233)
                        refine thenQ_r ?_
                        refine blockQ_r ?_
                        refine thenQ_r ?_
                        cases hm232
                        exact ⟨rfl, _, (res1 rfl), φ201, _, (hS215.pick [] _ (by decide) rfl), rfl, rfl⟩
                    · have hm234 := hm220; rw [if_neg c221] at hm234; replace c221 := Hid.mk c221
                      refine OKS.p rfl rfl rfl (wantedN rfl rfl (decT c221.out) rfl) ?_
                      refine OKS.p rfl rfl rfl (wantedN rfl rfl (decT c221.out) rfl) ?_
                      refine OKS.p rfl rfl rfl (wantedN rfl rfl (decT c221.out) rfl) ?_
                      refine OKS.p rfl rfl rfl (wantedN rfl rfl (decT c221.out) rfl) ?_
                      refine OKS.p rfl rfl rfl (wantedN rfl rfl (decT c221.out) rfl) ?_
                      refine OKS.p rfl rfl rfl (wantedN rfl rfl (decT c221.out) rfl) ?_
                      refine OKS.r rfl rfl rfl (wantedY rfl rfl (decT c219.out)) (fun _ => Runs.pickT rfl (decT c221.out) rfl) ?_
                      refine OKS.r rfl rfl rfl (wantedY rfl rfl (decF (fun h => h c217.out))) (fun _ => Runs.pickT rfl (decT c219.out) rfl) ?_
                      refine OKS.r rfl rfl rfl rfl (fun _ => Runs.pickF rfl (decF (fun h => h c217.out)) rfl) ?_
                      refine OKS.e ?_
                      refine thenQ_n ?_
                      refine CK.condT rfl ?_
                      refine CK.seq ?_
                      refine CK.reg (ks := []) (.fl 0 (.nil)) rfl ?_
                      refine OKS.r rfl rfl rfl rfl (fun _ => Runs.as rfl rfl) ?_
                      refine OKS.e ?_
                      refine thenQ_n ?_
                      refine CK.ret ?_
                      refine blockQ_r ?_
                      refine thenQ_r ?_
                      obtain ⟨v235, hm236, e237⟩ := esc_spec hm234
                      obtain rfl := jn_inr hm167 hX172 (hb179 v235 e237)
                      refine thenQ_r ?_
                      refine blockQ_r ?_
                      refine thenQ_r ?_
                      cases hm236
                      exact ⟨rfl, _, (res1 rfl), φ201, _, (hS215.pick [] _ (by decide) rfl), rfl, rfl⟩
                  · have hm238 := hm218; rw [if_neg c219] at hm238; replace c219 := Hid.mk c219
                    refine OKS.p rfl rfl rfl (wantedN rfl rfl (decF c219.out) rfl) ?_
                    refine OKS.p rfl rfl rfl (wantedN rfl rfl (decF c219.out) rfl) ?_
                    refine OKS.p rfl rfl rfl (wantedN rfl rfl (decF c219.out) rfl) ?_
                    refine OKS.p rfl rfl rfl (wantedN rfl rfl (decF c219.out) rfl) ?_
                    refine OKS.p rfl rfl rfl (wantedN rfl rfl (decF c219.out) rfl) ?_
                    refine OKS.p rfl rfl rfl (wantedU rfl rfl rfl) ?_
                    refine OKS.p rfl rfl rfl (wantedU rfl rfl rfl) ?_
                    refine OKS.p rfl rfl rfl (wantedU rfl rfl rfl) ?_
                    refine OKS.p rfl rfl rfl (wantedU rfl rfl rfl) ?_
                    refine OKS.p rfl rfl rfl (wantedU rfl rfl rfl) ?_
                    refine OKS.p rfl rfl rfl (wantedU rfl rfl rfl) ?_
                    refine OKS.p rfl rfl rfl (wantedN rfl rfl (decF c219.out) rfl) ?_
                    refine OKS.r rfl rfl rfl (wantedY rfl rfl (decF (fun h => h c217.out))) (fun _ => Runs.pickF rfl (decF c219.out) rfl) ?_
                    refine OKS.r rfl rfl rfl rfl (fun _ => Runs.pickF rfl (decF (fun h => h c217.out)) rfl) ?_
                    refine OKS.e ?_
                    refine thenQ_n ?_
                    refine CK.condF rfl ?_
                    refine CK.skip ?_
                    refine blockQ_n ?_
                    refine thenQ_n ?_
                    refine CK.reg (ks := []) (.fl 0 (.fl 1 (.nil))) rfl ?_
                    refine OKS.r rfl rfl rfl rfl (fun _ => Runs.to (Runs.addw rfl fi181 rfl) (congrArg (Value.int .i64) hi193.out)) ?_
                    refine OKS.r rfl rfl rfl rfl (fun _ => Runs.mv rfl rfl) ?_
                    refine OKS.e ?_
                    obtain rfl := Option.some.inj hm238
                    exact thenQ_n ⟨rfl, _, rfl, ⟨φ201, rfl, f185, f186, f187, f188, f189, f190, f191, (le183.trans le205), (hS215.pick [1, 2, 3] _ (by decide) rfl)⟩⟩
                · have hm239 := hm200; rw [if_neg c217] at hm239; replace c217 := Hid.mk c217
                  refine OKS.p rfl rfl rfl (wantedN rfl rfl (decT c217.out) rfl) ?_
                  refine OKS.p rfl rfl rfl (wantedN rfl rfl (decT c217.out) rfl) ?_
                  refine OKS.p rfl rfl rfl (wantedN rfl rfl (decT c217.out) rfl) ?_
                  refine OKS.p rfl rfl rfl (wantedU rfl rfl rfl) ?_
                  refine OKS.p rfl rfl rfl (wantedU rfl rfl rfl) ?_
                  refine OKS.p rfl rfl rfl (wantedU rfl rfl rfl) ?_
                  refine OKS.p rfl rfl rfl (wantedU rfl rfl rfl) ?_
                  refine OKS.p rfl rfl rfl (wantedU rfl rfl rfl) ?_
                  refine OKS.p rfl rfl rfl (wantedU rfl rfl rfl) ?_
                  refine OKS.p rfl rfl rfl (wantedU rfl rfl rfl) ?_
                  refine OKS.p rfl rfl rfl (wantedU rfl rfl rfl) ?_
                  refine OKS.p rfl rfl rfl (wantedU rfl rfl rfl) ?_
                  refine OKS.p rfl rfl rfl (wantedU rfl rfl rfl) ?_
                  refine OKS.p rfl rfl rfl (wantedU rfl rfl rfl) ?_
                  refine OKS.p rfl rfl rfl (wantedU rfl rfl rfl) ?_
                  refine OKS.p rfl rfl rfl (wantedN rfl rfl (decT c217.out) rfl) ?_
                  refine OKS.r rfl rfl rfl rfl (fun _ => Runs.pickT rfl (decT c217.out) rfl) ?_
                  refine OKS.e ?_
                  refine thenQ_n ?_
                  refine CK.condT rfl ?_
                  refine CK.seq ?_
                  refine CK.reg (ks := []) (.fl 0 (.nil)) rfl ?_
                  refine OKS.r rfl rfl rfl rfl (fun _ => Runs.as rfl rfl) ?_
                  refine OKS.e ?_
                  refine thenQ_n ?_
                  refine CK.ret ?_
                  refine blockQ_r ?_
                  refine thenQ_r ?_
                  obtain ⟨v240, hm241, e242⟩ := esc_spec hm239
                  obtain rfl := jn_inr hm167 hX172 (hb179 v240 e242)
                  refine thenQ_r ?_
                  refine blockQ_r ?_
                  refine thenQ_r ?_
                  cases hm241
                  exact ⟨rfl, _, (res1 rfl), φ201, _, (hS215.pick [] _ (by decide) rfl), rfl, rfl⟩
              · rintro ⟨⟩ σ243 W244 ⟨φ247, fi246, f250, f251, f252, f253, f254, f255, f256, le248, hS249⟩ hb245
                have hm257 := jn_inl hm167 hX172 hb245
                try dsimp only at hm257
                have c258 : Hid (¬ ((↑((p0 : Int) - 0).toNat : Int) < p0)) := Hid.mk (lp_end0)
                refine CK.seq ?_
                refine CK.reg (ks := []) (.fl 0 (.nil)) rfl ?_
                refine OKS.r rfl rfl rfl rfl (fun _ => Runs.lss rfl fi246 f256) ?_
                refine OKS.e ?_
                refine thenQ_n ?_
                refine CK.seq ?_
                refine CK.condF (decF c258.out) ?_
                refine CK.exit ?_
                refine thenQ_e ?_
                refine thenQ_e ?_
                refine blockQ_h ?_
                refine thenQ_n ?_
                refine CK.seq ?_
                refine CK.reg (ks := []) (.fl 0 (.fl 1 (.fl 2 (.fl 3 (.fl 4 (.fl 5 (.fl 6 (.fl 7 (.fl 8 (.fl 9 (.fx 10 (.fl 11 (.fl 12 (.fx 13 (.fl 14 (.fl 15 (.nil))) .stop))) .stop))))))))))) rfl ?_
                refine OKS.r rfl rfl rfl rfl (fun _ => Runs.mv rfl f254) ?_
                refine OKS.r rfl rfl rfl rfl (fun _ => Runs.eql rfl rfl rfl) ?_
                refine OKS.r rfl rfl rfl rfl (fun _ => Runs.mv rfl rfl) ?_
                by_cases c259 : x153 = 0
                · have hm260 := hm257; rw [if_pos c259] at hm260; replace c259 := Hid.mk c259
                  refine OKS.p rfl rfl rfl (wantedN rfl rfl (decT c259.out) rfl) ?_
                  refine OKS.p rfl rfl rfl (wantedN rfl rfl (decT c259.out) rfl) ?_
                  refine OKS.p rfl rfl rfl (wantedN rfl rfl (decT c259.out) rfl) ?_
                  refine OKS.r rfl rfl rfl rfl (fun _ => Runs.pickT rfl (decT c259.out) rfl) ?_
                  refine OKS.r rfl rfl rfl rfl (fun _ => Runs.mv rfl rfl) ?_
                  refine OKS.r rfl rfl rfl (wantedY rfl rfl rfl) (fun _ => Runs.mv rfl f252) ?_
                  refine OKS.r rfl rfl rfl (wantedY rfl rfl rfl) (fun _ => Runs.mv rfl f251) ?_
                  have h261 := h151.le le160
                  have h262 := h261.le le248
                  have h263 := h51.le le59
                  have h264 := h263.le le66
                  have h265 := h264.le le77
                  have h266 := h265.le le81
                  have h267 := h266.le le92
                  have h268 := h267.le le106
                  have h269 := h268.le le128
                  have h270 := h269.le le160
                  have h271 := h270.le le248
                  obtain ⟨x272, h273, hm274⟩ := bnd hm260
                  refine OKS.callH 0 rfl rfl rfl (wantedY rfl rfl rfl) (Enters.mk rfl rfl Try.call30 (mapcons rfl (mapcons rfl mapnil)) rfl) hS249 (fun hs => w_klisterkit_Equal_target_Sheet x38 A47 c48 p1 pA1 pc1 W244 φ247 hs h262 h271 h273) (.inr rfl) ?_
                  rintro φ275 L276 v277 W278 le279 hS280 ⟨rfl, rfl⟩
                  have hS281 : St ⟨w, [], φ⟩ φ275 [.blk b132 31 [.int .i64 x120.Lo, .int .i64 x120.Hi], .blk b110 31 [.int .i64 x98.Lo, .int .i64 x98.Hi], .row A162 c163 31 2 (List.flatMap encT_api_Span x152)] W278 := hS280
                  refine OKS.r rfl rfl rfl rfl (fun _ => Runs.pickT rfl rfl rfl) ?_
                  refine OKS.r rfl rfl rfl rfl (fun _ => Runs.mv rfl rfl) ?_
                  by_cases c282 : x272 = true
                  · have hm283 := hm274; rw [if_pos c282] at hm283; replace c282 := Hid.mk c282
                    obtain ⟨x284, h285, hm286⟩ := bnd hm283
                    refine OKS.callH 0 rfl rfl rfl (wantedY rfl rfl (congrArg Value.bool c282.out)) (Enters.mk rfl rfl Try.call24 mapnil rfl) hS281 (fun hs => w_klisterlaw03_awake W278 φ275 hs h285) (.inr rfl) ?_
                    rintro φ287 L288 v289 W290 le291 hS292 ⟨rfl, rfl⟩
                    have hS293 : St ⟨w, [], φ⟩ φ287 [.blk b132 31 [.int .i64 x120.Lo, .int .i64 x120.Hi], .blk b110 31 [.int .i64 x98.Lo, .int .i64 x98.Hi], .row A162 c163 31 2 (List.flatMap encT_api_Span x152)] W290 := hS292
                    refine OKS.r rfl rfl rfl rfl (fun _ => Runs.pickT rfl (congrArg Value.bool c282.out) rfl) ?_
                    refine OKS.r rfl rfl rfl rfl (fun _ => Runs.as rfl rfl) ?_
                    refine OKS.e ?_
                    refine thenQ_n ?_
                    refine CK.ret ?_
                    cases hm286
                    exact ⟨rfl, _, (res1 rfl), φ287, _, (hS293.pick [] _ (by decide) rfl), rfl, rfl⟩
                  · have hm294 := hm274; rw [if_neg c282] at hm294; replace c282 := Hid.mk c282
                    refine OKS.px rfl rfl rfl (wantedN rfl rfl (congrArg Value.bool (Bool.eq_false_iff.2 c282.out)) rfl) ?_
                    refine OKS.r rfl rfl rfl rfl (fun _ => Runs.pickF rfl (congrArg Value.bool (Bool.eq_false_iff.2 c282.out)) rfl) ?_
                    refine OKS.r rfl rfl rfl rfl (fun _ => Runs.as rfl rfl) ?_
                    refine OKS.e ?_
                    refine thenQ_n ?_
                    refine CK.ret ?_
                    cases hm294
                    exact ⟨rfl, _, (res1 rfl), φ275, _, (hS281.pick [] _ (by decide) rfl), rfl, rfl⟩
                · have hm295 := hm257; rw [if_neg c259] at hm295; replace c259 := Hid.mk c259
                  refine OKS.r rfl rfl rfl (wantedY rfl rfl (decF c259.out)) (fun _ => Runs.mv rfl f255) ?_
                  refine OKS.r rfl rfl rfl (wantedY rfl rfl (decF c259.out)) (fun _ => Runs.len rfl rfl Try.runUnderlying38) ?_
                  refine OKS.r rfl rfl rfl (wantedY rfl rfl (decF c259.out)) (fun _ => Runs.eql rfl rfl rfl) ?_
                  refine OKS.r rfl rfl rfl rfl (fun _ => Runs.pickF rfl (decF c259.out) rfl) ?_
                  refine OKS.r rfl rfl rfl rfl (fun _ => Runs.mv rfl rfl) ?_
                  by_cases c296 : (↑x152.length : Int) = 0
                  · have hm297 := hm295; rw [if_pos c296] at hm297; replace c296 := Hid.mk c296
                    refine OKS.r rfl rfl rfl (wantedY rfl rfl (decT c296.out)) (fun _ => Runs.mv rfl f252) ?_
                    refine OKS.r rfl rfl rfl (wantedY rfl rfl (decT c296.out)) (fun _ => Runs.mv rfl f251) ?_
                    have h298 := h151.le le160
                    have h299 := h298.le le248
                    have h300 := h51.le le59
                    have h301 := h300.le le66
                    have h302 := h301.le le77
                    have h303 := h302.le le81
                    have h304 := h303.le le92
                    have h305 := h304.le le106
                    have h306 := h305.le le128
                    have h307 := h306.le le160
                    have h308 := h307.le le248
                    obtain ⟨x309, h310, hm311⟩ := bnd hm297
                    refine OKS.callH 0 rfl rfl rfl (wantedY rfl rfl (decT c296.out)) (Enters.mk rfl rfl Try.call30 (mapcons rfl (mapcons rfl mapnil)) rfl) hS249 (fun hs => w_klisterkit_Equal_target_Sheet x38 A47 c48 p1 pA1 pc1 W244 φ247 hs h299 h308 h310) (.inr rfl) ?_
                    rintro φ312 L313 v314 W315 le316 hS317 ⟨rfl, rfl⟩
                    have hS318 : St ⟨w, [], φ⟩ φ312 [.blk b132 31 [.int .i64 x120.Lo, .int .i64 x120.Hi], .blk b110 31 [.int .i64 x98.Lo, .int .i64 x98.Hi], .row A162 c163 31 2 (List.flatMap encT_api_Span x152)] W315 := hS317
                    refine OKS.r rfl rfl rfl rfl (fun _ => Runs.pickT rfl (decT c296.out) rfl) ?_
                    refine OKS.r rfl rfl rfl rfl (fun _ => Runs.mv rfl rfl) ?_
                    by_cases c319 : x309 = true
                    · have hm320 := hm311; rw [if_pos c319] at hm320; replace c319 := Hid.mk c319
                      obtain ⟨x321, h322, hm323⟩ := bnd hm320
                      refine OKS.callH 0 rfl rfl rfl (wantedY rfl rfl (congrArg Value.bool c319.out)) (Enters.mk rfl rfl Try.call24 mapnil rfl) hS318 (fun hs => w_klisterlaw03_awake W315 φ312 hs h322) (.inr rfl) ?_
                      rintro φ324 L325 v326 W327 le328 hS329 ⟨rfl, rfl⟩
                      have hS330 : St ⟨w, [], φ⟩ φ324 [.blk b132 31 [.int .i64 x120.Lo, .int .i64 x120.Hi], .blk b110 31 [.int .i64 x98.Lo, .int .i64 x98.Hi], .row A162 c163 31 2 (List.flatMap encT_api_Span x152)] W327 := hS329
                      refine OKS.r rfl rfl rfl rfl (fun _ => Runs.pickT rfl (congrArg Value.bool c319.out) rfl) ?_
                      refine OKS.r rfl rfl rfl rfl (fun _ => Runs.as rfl rfl) ?_
                      refine OKS.e ?_
                      refine thenQ_n ?_
                      refine CK.ret ?_
                      cases hm323
                      exact ⟨rfl, _, (res1 rfl), φ324, _, (hS330.pick [] _ (by decide) rfl), rfl, rfl⟩
                    · have hm331 := hm311; rw [if_neg c319] at hm331; replace c319 := Hid.mk c319
                      refine OKS.px rfl rfl rfl (wantedN rfl rfl (congrArg Value.bool (Bool.eq_false_iff.2 c319.out)) rfl) ?_
                      refine OKS.r rfl rfl rfl rfl (fun _ => Runs.pickF rfl (congrArg Value.bool (Bool.eq_false_iff.2 c319.out)) rfl) ?_
                      refine OKS.r rfl rfl rfl rfl (fun _ => Runs.as rfl rfl) ?_
                      refine OKS.e ?_
                      refine thenQ_n ?_
                      refine CK.ret ?_
                      cases hm331
                      exact ⟨rfl, _, (res1 rfl), φ312, _, (hS318.pick [] _ (by decide) rfl), rfl, rfl⟩
                  · have hm332 := hm295; rw [if_neg c296] at hm332; replace c296 := Hid.mk c296
                    refine OKS.p rfl rfl rfl (wantedN rfl rfl (decF c296.out) rfl) ?_
                    refine OKS.p rfl rfl rfl (wantedN rfl rfl (decF c296.out) rfl) ?_
                    refine OKS.px rfl rfl rfl (wantedN rfl rfl (decF c296.out) rfl) ?_
                    refine OKS.r rfl rfl rfl rfl (fun _ => Runs.pickF rfl (decF c296.out) rfl) ?_
                    refine OKS.r rfl rfl rfl rfl (fun _ => Runs.mv rfl rfl) ?_
                    refine OKS.px rfl rfl rfl (wantedN rfl rfl rfl rfl) ?_
                    refine OKS.r rfl rfl rfl rfl (fun _ => Runs.pickF rfl rfl rfl) ?_
                    refine OKS.r rfl rfl rfl rfl (fun _ => Runs.as rfl rfl) ?_
                    refine OKS.e ?_
                    refine thenQ_n ?_
                    refine CK.ret ?_
                    cases hm332
                    exact ⟨rfl, _, (res1 rfl), φ247, _, (hS249.pick [] _ (by decide) rfl), rfl, rfl⟩
            · have hm333 := hm155; rw [if_neg c166] at hm333; replace c166 := Hid.mk c166
              refine CK.condT (decT c166.out) ?_
              refine CK.seq ?_
              refine CK.reg (ks := []) (.fl 0 (.fl 1 (.fl 2 (.fl 3 (.fl 4 (.fl 5 (.fl 6 (.fl 7 (.fl 8 (.fl 9 (.fl 10 (.fx 11 (.fl 12 (.fl 13 (.fx 14 (.fl 15 (.fl 16 (.nil))) .stop))) .stop)))))))))))) rfl ?_
              refine OKS.r rfl rfl rfl rfl (fun _ => Runs.mv rfl rfl) ?_
              refine OKS.r rfl rfl rfl rfl (fun _ => Runs.mv rfl f148) ?_
              refine OKS.r rfl rfl rfl rfl (fun _ => Runs.eql rfl rfl rfl) ?_
              refine OKS.r rfl rfl rfl rfl (fun _ => Runs.mv rfl rfl) ?_
              by_cases c334 : x153 = x70
              · have hm335 := hm333; rw [if_pos c334] at hm335; replace c334 := Hid.mk c334
                refine OKS.r rfl rfl rfl (wantedY rfl rfl (decT c334.out)) (fun _ => Runs.mv rfl rfl) ?_
                refine OKS.r rfl rfl rfl (wantedY rfl rfl (decT c334.out)) (fun _ => Runs.len rfl rfl Try.runUnderlying38) ?_
                refine OKS.r rfl rfl rfl (wantedY rfl rfl (decT c334.out)) (fun _ => Runs.eql rfl rfl rfl) ?_
                refine OKS.r rfl rfl rfl rfl (fun _ => Runs.pickT rfl (decT c334.out) rfl) ?_
                refine OKS.r rfl rfl rfl rfl (fun _ => Runs.mv rfl rfl) ?_
                by_cases c336 : (↑x152.length : Int) = 0
                · have hm337 := hm335; rw [if_pos c336] at hm337; replace c336 := Hid.mk c336
                  refine OKS.r rfl rfl rfl (wantedY rfl rfl (decT c336.out)) (fun _ => Runs.mv rfl f146) ?_
                  refine OKS.r rfl rfl rfl (wantedY rfl rfl (decT c336.out)) (fun _ => Runs.mv rfl f145) ?_
                  have h338 := h151.le le160
                  have h339 := h51.le le59
                  have h340 := h339.le le66
                  have h341 := h340.le le77
                  have h342 := h341.le le81
                  have h343 := h342.le le92
                  have h344 := h343.le le106
                  have h345 := h344.le le128
                  have h346 := h345.le le160
                  obtain ⟨x347, h348, hm349⟩ := bnd hm337
                  refine OKS.callH 0 rfl rfl rfl (wantedY rfl rfl (decT c336.out)) (Enters.mk rfl rfl Try.call30 (mapcons rfl (mapcons rfl mapnil)) rfl) hS165 (fun hs => w_klisterkit_Equal_target_Sheet x38 A47 c48 p1 pA1 pc1 W159 φ156 hs h338 h346 h348) (.inr rfl) ?_
                  rintro φ350 L351 v352 W353 le354 hS355 ⟨rfl, rfl⟩
                  have hS356 : St ⟨w, [], φ⟩ φ350 [.row A162 c163 31 2 (List.flatMap encT_api_Span x152), .blk b132 31 [.int .i64 x120.Lo, .int .i64 x120.Hi], .blk b110 31 [.int .i64 x98.Lo, .int .i64 x98.Hi]] W353 := hS355
                  refine OKS.r rfl rfl rfl rfl (fun _ => Runs.pickT rfl (decT c336.out) rfl) ?_
                  refine OKS.r rfl rfl rfl rfl (fun _ => Runs.mv rfl rfl) ?_
                  by_cases c357 : x347 = true
                  · have hm358 := hm349; rw [if_pos c357] at hm358; replace c357 := Hid.mk c357
                    obtain ⟨x359, h360, hm361⟩ := bnd hm358
                    refine OKS.callH 0 rfl rfl rfl (wantedY rfl rfl (congrArg Value.bool c357.out)) (Enters.mk rfl rfl Try.call24 mapnil rfl) hS356 (fun hs => w_klisterlaw03_awake W353 φ350 hs h360) (.inr rfl) ?_
                    rintro φ362 L363 v364 W365 le366 hS367 ⟨rfl, rfl⟩
                    have hS368 : St ⟨w, [], φ⟩ φ362 [.row A162 c163 31 2 (List.flatMap encT_api_Span x152), .blk b132 31 [.int .i64 x120.Lo, .int .i64 x120.Hi], .blk b110 31 [.int .i64 x98.Lo, .int .i64 x98.Hi]] W365 := hS367
                    refine OKS.r rfl rfl rfl rfl (fun _ => Runs.pickT rfl (congrArg Value.bool c357.out) rfl) ?_
                    refine OKS.r rfl rfl rfl rfl (fun _ => Runs.as rfl rfl) ?_
                    refine OKS.e ?_
                    refine thenQ_n ?_
                    refine CK.ret ?_
                    refine thenQ_r ?_
                    cases hm361
                    exact ⟨rfl, _, (res1 rfl), φ362, _, (hS368.pick [] _ (by decide) rfl), rfl, rfl⟩
                  · have hm369 := hm349; rw [if_neg c357] at hm369; replace c357 := Hid.mk c357
                    refine OKS.px rfl rfl rfl (wantedN rfl rfl (congrArg Value.bool (Bool.eq_false_iff.2 c357.out)) rfl) ?_
                    refine OKS.r rfl rfl rfl rfl (fun _ => Runs.pickF rfl (congrArg Value.bool (Bool.eq_false_iff.2 c357.out)) rfl) ?_
                    refine OKS.r rfl rfl rfl rfl (fun _ => Runs.as rfl rfl) ?_
                    refine OKS.e ?_
                    refine thenQ_n ?_
                    refine CK.ret ?_
                    refine thenQ_r ?_
                    cases hm369
                    exact ⟨rfl, _, (res1 rfl), φ350, _, (hS356.pick [] _ (by decide) rfl), rfl, rfl⟩
                · have hm370 := hm335; rw [if_neg c336] at hm370; replace c336 := Hid.mk c336
                  refine OKS.p rfl rfl rfl (wantedN rfl rfl (decF c336.out) rfl) ?_
                  refine OKS.p rfl rfl rfl (wantedN rfl rfl (decF c336.out) rfl) ?_
                  refine OKS.px rfl rfl rfl (wantedN rfl rfl (decF c336.out) rfl) ?_
                  refine OKS.r rfl rfl rfl rfl (fun _ => Runs.pickF rfl (decF c336.out) rfl) ?_
                  refine OKS.r rfl rfl rfl rfl (fun _ => Runs.mv rfl rfl) ?_
                  refine OKS.px rfl rfl rfl (wantedN rfl rfl rfl rfl) ?_
                  refine OKS.r rfl rfl rfl rfl (fun _ => Runs.pickF rfl rfl rfl) ?_
                  refine OKS.r rfl rfl rfl rfl (fun _ => Runs.as rfl rfl) ?_
                  refine OKS.e ?_
                  refine thenQ_n ?_
                  refine CK.ret ?_
                  refine thenQ_r ?_
                  cases hm370
                  exact ⟨rfl, _, (res1 rfl), φ156, _, (hS165.pick [] _ (by decide) rfl), rfl, rfl⟩
              · have hm371 := hm333; rw [if_neg c334] at hm371; replace c334 := Hid.mk c334
                refine OKS.p rfl rfl rfl (wantedN rfl rfl (decF c334.out) rfl) ?_
                refine OKS.p rfl rfl rfl (wantedN rfl rfl (decF c334.out) rfl) ?_
                refine OKS.p rfl rfl rfl (wantedN rfl rfl (decF c334.out) rfl) ?_
                refine OKS.r rfl rfl rfl rfl (fun _ => Runs.pickF rfl (decF c334.out) rfl) ?_
                refine OKS.r rfl rfl rfl rfl (fun _ => Runs.mv rfl rfl) ?_
                refine OKS.p rfl rfl rfl (wantedN rfl rfl rfl rfl) ?_
                refine OKS.p rfl rfl rfl (wantedN rfl rfl rfl rfl) ?_
                refine OKS.px rfl rfl rfl (wantedN rfl rfl rfl rfl) ?_
                refine OKS.r rfl rfl rfl rfl (fun _ => Runs.pickF rfl rfl rfl) ?_
                refine OKS.r rfl rfl rfl rfl (fun _ => Runs.mv rfl rfl) ?_
                refine OKS.px rfl rfl rfl (wantedN rfl rfl rfl rfl) ?_
                refine OKS.r rfl rfl rfl rfl (fun _ => Runs.pickF rfl rfl rfl) ?_
                refine OKS.r rfl rfl rfl rfl (fun _ => Runs.as rfl rfl) ?_
                refine OKS.e ?_
                refine thenQ_n ?_
                refine CK.ret ?_
                refine thenQ_r ?_
                cases hm371
                exact ⟨rfl, _, (res1 rfl), φ156, _, (hS165.pick [] _ (by decide) rfl), rfl, rfl⟩
          · have hm372 := hm139; rw [if_neg c140] at hm372; replace c140 := Hid.mk c140
            refine CK.condT (decT c140.out) ?_
            refine CK.seq ?_
            refine CK.fresh fun σ373 hσ374 => ?_
            clear hσ374
            refine CK.reg (ks := []) (.fl 0 (.nil)) rfl ?_
            refine OKS.r rfl rfl rfl rfl (fun _ => Runs.as rfl rfl) ?_
            refine OKS.e ?_
            refine thenQ_n ?_
            refine CK.ret ?_
            refine thenQ_r ?_
            cases hm372
            exact ⟨rfl, _, (res1 rfl), φ124, _, (hS137.pick [] _ (by decide) rfl), rfl, rfl⟩
        · have hm375 := hm123; rw [if_neg c138] at hm375; replace c138 := Hid.mk c138
          refine OKS.p rfl rfl rfl (wantedN rfl rfl (decT c138.out) rfl) ?_
          refine OKS.p rfl rfl rfl (wantedN rfl rfl (decT c138.out) rfl) ?_
          refine OKS.p rfl rfl rfl (wantedN rfl rfl (decT c138.out) rfl) ?_
          refine OKS.r rfl rfl rfl rfl (fun _ => Runs.pickT rfl (decT c138.out) rfl) ?_
          refine OKS.e ?_
          refine thenQ_n ?_
          refine CK.condT rfl ?_
          refine CK.seq ?_
          refine CK.fresh fun σ376 hσ377 => ?_
          clear hσ377
          refine CK.reg (ks := []) (.fl 0 (.nil)) rfl ?_
          refine OKS.r rfl rfl rfl rfl (fun _ => Runs.as rfl rfl) ?_
          refine OKS.e ?_
          refine thenQ_n ?_
          refine CK.ret ?_
          refine thenQ_r ?_
          cases hm375
          exact ⟨rfl, _, (res1 rfl), φ124, _, (hS137.pick [] _ (by decide) rfl), rfl, rfl⟩
      · have hm378 := hm87; rw [if_neg c95] at hm378; replace c95 := Hid.mk c95
        refine CK.condT (decT c95.out) ?_
        refine CK.seq ?_
        refine CK.reg (ks := []) (.fl 0 (.nil)) rfl ?_
        refine OKS.r rfl rfl rfl rfl (fun _ => Runs.as rfl rfl) ?_
        refine OKS.e ?_
        refine thenQ_n ?_
        refine CK.ret ?_
        refine thenQ_r ?_
        cases hm378
        exact ⟨rfl, _, (res1 rfl), φ88, _, hS94, rfl, rfl⟩
end Go.Proofs.Ytnllmignponhdaa
