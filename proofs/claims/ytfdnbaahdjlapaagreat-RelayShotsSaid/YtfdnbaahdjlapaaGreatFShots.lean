/-
  'klisterlaw08.RelayShots' answers true, whatever is passed in, which reads as it did.
-/
import Derived.Test.YtfdnbaahdjlapaaGreatRows
import Derived.Test.YtfdnbaahdjlapaaGreatVR
import Derived.Test.YtfdnbaahdjlapaaGreatW2
import Derived.Test.YtfdnbaahdjlapaaGreatPShots
namespace Go.Proofs.YtfdnbaahdjlapaaGreat
open Go.KL
open Go.ChangeShapes Go.WideShapes Go.ChangeAt Go.RowKit

theorem fShots_own : ownKnob Tryz.prog.godebug = none := by kernel_rfl
theorem fShots_laid : laidOutB Tryz.prog = true := by kernel_rfl
theorem fShots_cells24 : Tryz.prog.cellsOf 24 = 6 := by kernel_rfl
theorem fShots_len6 {α : Type} {l : List α} (h : l.length = 6) : ∃ c0 c1 c2 c3 c4 c5, l = [c0, c1, c2, c3, c4, c5] :=
  match l, h with
  | [c0, c1, c2, c3, c4, c5], _ => ⟨c0, c1, c2, c3, c4, c5, rfl⟩
theorem fShots_cells22 : Tryz.prog.cellsOf 22 = 1 := by kernel_rfl
theorem fShots_e3 {H : Type} {enc : TypeId × Value → H} {W : World} {n : Nat} {cs : List Value} {y : DataW H × List MemPlace} (h : DataW.trod enc Tryz.prog W 0 (fun _ => true) true n 3 cs = some y) : ∃ x, cs = encI x ∧ True := by
  obtain ⟨x, e, _, _⟩ := DataW.trod_int Tryz.underlying3 h
  exact ⟨x, e, trivial⟩
theorem fShots_cells3 : Tryz.prog.cellsOf 3 = 1 := by kernel_rfl
theorem fShots_e4 {H : Type} {enc : TypeId × Value → H} {W : World} {n : Nat} {cs : List Value} {y : DataW H × List MemPlace} (h : DataW.trod enc Tryz.prog W 0 (fun _ => true) true n 4 cs = some y) : ∃ x, cs = encT x ∧ True := by
  obtain ⟨x, e, _⟩ := DataW.trod_bool Tryz.underlying4 h
  exact ⟨x, e, trivial⟩
theorem fShots_cells4 : Tryz.prog.cellsOf 4 = 1 := by kernel_rfl

set_option maxRecDepth 100000 in
theorem fShots_lifted (os : Os) (started : os.Started) (H : Type) (enc : TypeId × Value → H) :
    ReturnsInHanded {} Tryz.checked os 3 .any (Rows.relayShotsSpec.pre6 enc Tryz.prog Tryz.f3 Rows.relayShotsRow.domain false) (Rows.relayShotsSpec.post enc Tryz.prog Tryz.f3 false true false false) := by
  refine returnsInHanded_of_change (C := Tryz.checked) fShots_own started (by kernel_rfl) Tryz.func3
    (ChangeSpec.witness6 (enc := enc) (C := Tryz.checked) false ⟨#[], #[.agg #[.slice none 0 0, .int .i64 0, .int .i64 0, .int .i64 0, .int .i64 0, .int .i64 0], .slice none 0 0], []⟩ 8 (by kernel_rfl) (by kernel_rfl) (by kernel_rfl) (by kernel_rfl)) ?_
  intro W base args ds gs before hval0 hW hcnd _
  have hval : ∀ (j : Nat) t v, Tryz.f3.params[j]? = some t → args[j]? = some v → Value.okWide Tryz.prog W .any base t v := hval0
  have hW' := hW
  obtain ⟨p, q, hA0, hV, rfl, hfz, hnd⟩ := hW
  have hA : DataW.TrodAll enc Tryz.prog W 0 (fun _ => true) true Tryz.f3.params.toList args.toList ds p := hA0
  rw [Tryz.params3] at hA hval
  obtain ⟨v0, v1, d0, d1, p0, p1, rfl, rfl, rfl, h0, h1⟩ := trodAll_two hA
  obtain ⟨rfl, rfl⟩ := trodVars_none hV
  obtain ⟨cs0, rfl, _⟩ := okWide_struct Tryz.underlying24 (hval 0 24 v0 rfl rfl)
  obtain ⟨n0, hn0⟩ := h0
  have hq0 : (Value.agg cs0).cells.toList = cs0.toList := by simp [Value.cells]
  rw [hq0] at hn0
  obtain ⟨hl0, kf0, hf0⟩ := trod_fields Tryz.underlying24 hn0
  rw [fShots_cells24] at hl0
  obtain ⟨c0_0, c0_1, c0_2, c0_3, c0_4, c0_5, hc0⟩ := fShots_len6 hl0
  have g0_0 : ∃ y, DataW.trod enc Tryz.prog W 0 (fun _ => true) true kf0 22 (([c0_0, c0_1, c0_2, c0_3, c0_4, c0_5].drop 0).take (Tryz.prog.cellsOf 22)) = some y := by have q := hf0 0 _ rfl; rw [hc0] at q; exact q
  rw [fShots_cells22] at g0_0
  obtain ⟨_, g0_0⟩ := g0_0
  obtain ⟨Ai0_1, ki0_1, i0_1, e0_1, hSi0_1, _⟩ := open_flat0 (f := encI) (sz := 1) (by decide) (fun _ => rfl) Tryz.underlying22 fShots_cells3 (fun _ => True) (fun _ _ _ => fShots_e3) g0_0
  have g0_2 : ∃ y, DataW.trod enc Tryz.prog W 0 (fun _ => true) true kf0 3 (([c0_0, c0_1, c0_2, c0_3, c0_4, c0_5].drop 1).take (Tryz.prog.cellsOf 3)) = some y := by have q := hf0 1 _ rfl; rw [hc0] at q; exact q
  rw [fShots_cells3] at g0_2
  obtain ⟨_, g0_2⟩ := g0_2
  obtain ⟨i0_3, e0_3, _, wi0_3⟩ := DataW.trod_int Tryz.underlying3 g0_2
  have g0_4 : ∃ y, DataW.trod enc Tryz.prog W 0 (fun _ => true) true kf0 3 (([c0_0, c0_1, c0_2, c0_3, c0_4, c0_5].drop 2).take (Tryz.prog.cellsOf 3)) = some y := by have q := hf0 2 _ rfl; rw [hc0] at q; exact q
  rw [fShots_cells3] at g0_4
  obtain ⟨_, g0_4⟩ := g0_4
  obtain ⟨i0_5, e0_5, _, wi0_5⟩ := DataW.trod_int Tryz.underlying3 g0_4
  have g0_6 : ∃ y, DataW.trod enc Tryz.prog W 0 (fun _ => true) true kf0 3 (([c0_0, c0_1, c0_2, c0_3, c0_4, c0_5].drop 3).take (Tryz.prog.cellsOf 3)) = some y := by have q := hf0 3 _ rfl; rw [hc0] at q; exact q
  rw [fShots_cells3] at g0_6
  obtain ⟨_, g0_6⟩ := g0_6
  obtain ⟨i0_7, e0_7, _, wi0_7⟩ := DataW.trod_int Tryz.underlying3 g0_6
  have g0_8 : ∃ y, DataW.trod enc Tryz.prog W 0 (fun _ => true) true kf0 3 (([c0_0, c0_1, c0_2, c0_3, c0_4, c0_5].drop 4).take (Tryz.prog.cellsOf 3)) = some y := by have q := hf0 4 _ rfl; rw [hc0] at q; exact q
  rw [fShots_cells3] at g0_8
  obtain ⟨_, g0_8⟩ := g0_8
  obtain ⟨i0_9, e0_9, _, wi0_9⟩ := DataW.trod_int Tryz.underlying3 g0_8
  have g0_10 : ∃ y, DataW.trod enc Tryz.prog W 0 (fun _ => true) true kf0 3 (([c0_0, c0_1, c0_2, c0_3, c0_4, c0_5].drop 5).take (Tryz.prog.cellsOf 3)) = some y := by have q := hf0 5 _ rfl; rw [hc0] at q; exact q
  rw [fShots_cells3] at g0_10
  obtain ⟨_, g0_10⟩ := g0_10
  obtain ⟨i0_11, e0_11, _, wi0_11⟩ := DataW.trod_int Tryz.underlying3 g0_10
  simp only [List.drop_zero, List.drop_succ_cons, List.take_succ_cons, List.take_zero, List.cons.injEq, and_true] at e0_1 e0_3 e0_5 e0_7 e0_9 e0_11
  subst e0_1 e0_3 e0_5 e0_7 e0_9 e0_11
  obtain rfl := Array.ext' (ys := List.toArray _) (by simpa using hc0)
  obtain ⟨A1, k1, xs1, rfl, hS1, _⟩ := open_flat (f := encT) (sz := 1) (by decide) (fun _ => rfl) Tryz.underlying25 fShots_cells4 (fun _ => True) (fun _ _ _ => fShots_e4) h1 (okWide_slice Tryz.underlying25 (hval 1 25 v1 rfl rfl))
  have hg := w_klisterlaw08_RelayShots (⟨i0_1, i0_3, i0_5, i0_7, i0_9, i0_11⟩ : T_relay_Rules) Ai0_1 ki0_1 xs1 A1 k1 W _ (St.start W) hSi0_1 hS1 (law_Shots (⟨i0_1, i0_3, i0_5, i0_7, i0_9, i0_11⟩ : T_relay_Rules) xs1)
  refine Calls.mono' hg fun e W' ⟨v, he, φ', L', hst, hv, _⟩ => ?_
  subst he; subst hv
  refine ⟨_, rfl, post_bool (P := Tryz.prog) hW' rfl fShots_laid ?_ (t := 4) (by kernel_rfl) Tryz.underlying4 true rfl rfl rfl hst.kp0⟩
  rw [Tryz.params3]
  intro t ht
  simp only [List.mem_cons, List.not_mem_nil, or_false] at ht
  rcases ht with rfl | rfl
  · exact ⟨by kernel_rfl, of_decide_eq_true (by kernel_rfl)⟩
  · exact ⟨by kernel_rfl, of_decide_eq_true (by kernel_rfl)⟩

theorem relay_shots : Rows.RelayShotsSaid :=
  OpenClaim.holds_of_wide 3 Tryz.f3 rfl rfl rfl rfl rfl rfl rfl ⟨rfl, rfl, rfl, rfl, rfl⟩ rfl rfl rfl rfl rfl (by kernel_rfl) Tryz.func3 (by kernel_rfl)
    (of_decide_eq_true (by kernel_rfl)) (by unfold Func.isWrapper; rw [if_neg (by decide +kernel)]; exact ⟨rfl, rfl⟩)
    (fun os started H enc _ => fShots_lifted os started H enc)

#print axioms relay_shots
end Go.Proofs.YtfdnbaahdjlapaaGreat
