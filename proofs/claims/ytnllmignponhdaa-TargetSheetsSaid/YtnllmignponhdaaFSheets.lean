/-
  'klisterlaw03.TargetSheets' answers true, whatever the number of bouts, the sheets, and the bouts from and to; what is passed in reads as it did.
-/
import Derived.Test.YtnllmignponhdaaRows
import Derived.Test.YtnllmignponhdaaVR
import Derived.Test.YtnllmignponhdaaW5
import Derived.Test.YtnllmignponhdaaPSheetC
namespace Go.Proofs.Ytnllmignponhdaa
open Go.KL
open Go.ChangeShapes Go.WideShapes Go.ChangeAt Go.RowKit

theorem fs_own : ownKnob Try.prog.godebug = none := by kernel_rfl
theorem fs_laid : laidOutB Try.prog = true := by kernel_rfl
theorem fs_cells33 : Try.prog.cellsOf 33 = 4 := by kernel_rfl
theorem fs_cells31 : Try.prog.cellsOf 31 = 2 := by kernel_rfl
theorem fs_cells3 : Try.prog.cellsOf 3 = 1 := by kernel_rfl

theorem len_four {α : Type} {l : List α} (h : l.length = 4) : ∃ a b c d, l = [a, b, c, d] :=
  match l, h with
  | [a, b, c, d], _ => ⟨a, b, c, d, rfl⟩
theorem fs_sheet {H : Type} {enc : TypeId × Value → H} {W : World} {n : Nat} {cs : List Value} {y : DataW H × List MemPlace} (h : DataW.trod enc Try.prog W 0 (fun _ => true) true n 33 cs = some y) : ∃ x, cs = encT_target_Sheet x ∧ True := by
  obtain ⟨hl, k, hf⟩ := trod_fields Try.underlying33 h
  rw [fs_cells33] at hl
  obtain ⟨c0, c1, c2, c3, rfl⟩ := len_four hl
  have g0 : ∃ y, DataW.trod enc Try.prog W 0 (fun _ => true) true k 3 (([c0, c1, c2, c3].drop 0).take (Try.prog.cellsOf 3)) = some y := hf 0 _ rfl
  have g1 : ∃ y, DataW.trod enc Try.prog W 0 (fun _ => true) true k 3 (([c0, c1, c2, c3].drop 1).take (Try.prog.cellsOf 3)) = some y := hf 1 _ rfl
  have g2 : ∃ y, DataW.trod enc Try.prog W 0 (fun _ => true) true k 31 (([c0, c1, c2, c3].drop 2).take (Try.prog.cellsOf 31)) = some y := hf 2 _ rfl
  rw [fs_cells3] at g0 g1
  rw [fs_cells31] at g2
  obtain ⟨y0, g0⟩ := g0
  obtain ⟨y1, g1⟩ := g1
  obtain ⟨y2, g2⟩ := g2
  obtain ⟨i0, e0, _, _⟩ := DataW.trod_int Try.underlying3 g0
  obtain ⟨i1, e1, _, _⟩ := DataW.trod_int Try.underlying3 g1
  obtain ⟨_, k', hf'⟩ := trod_fields Try.underlying31 g2
  have g3 : ∃ y, DataW.trod enc Try.prog W 0 (fun _ => true) true k' 3 (([c2, c3].drop 0).take (Try.prog.cellsOf 3)) = some y := hf' 0 _ rfl
  have g4 : ∃ y, DataW.trod enc Try.prog W 0 (fun _ => true) true k' 3 (([c2, c3].drop 1).take (Try.prog.cellsOf 3)) = some y := hf' 1 _ rfl
  rw [fs_cells3] at g3 g4
  obtain ⟨y3, g3⟩ := g3
  obtain ⟨y4, g4⟩ := g4
  obtain ⟨i2, e2, _, _⟩ := DataW.trod_int Try.underlying3 g3
  obtain ⟨i3, e3, _, _⟩ := DataW.trod_int Try.underlying3 g4
  simp only [List.drop_zero, List.drop_succ_cons, List.take_succ_cons, List.take_zero, List.cons.injEq, and_true] at e0 e1 e2 e3
  subst e0 e1 e2 e3
  exact ⟨⟨i0, i1, i2, i3⟩, rfl, trivial⟩

set_option maxRecDepth 100000 in
theorem fs_lifted (os : Os) (started : os.Started) (H : Type) (enc : TypeId × Value → H) :
    ReturnsInHanded {} Try.checked os 4 .any (Rows.targetSheetsSpec.pre6 enc Try.prog Try.f4 Rows.targetSheetsRow.domain false) (Rows.targetSheetsSpec.post enc Try.prog Try.f4 false true false false) := by
  refine returnsInHanded_of_change (C := Try.checked) fs_own started (by kernel_rfl) Try.func4
    (ChangeSpec.witness6 (enc := enc) (C := Try.checked) false ⟨#[], #[.int .i64 0, .slice none 0 0, .int .i64 0, .int .i64 0], []⟩ 8 (by kernel_rfl) (by kernel_rfl) (by kernel_rfl) (by kernel_rfl)) ?_
  intro W base args ds gs before hval0 hW hcnd _
  have hval : ∀ (j : Nat) t v, Try.f4.params[j]? = some t → args[j]? = some v → Value.okWide Try.prog W .any base t v := hval0
  have hW' := hW
  obtain ⟨p, q, hA0, hV, rfl, hfz, hnd⟩ := hW
  have hA : DataW.TrodAll enc Try.prog W 0 (fun _ => true) true Try.f4.params.toList args.toList ds p := hA0
  rw [Try.params4] at hA hval
  obtain ⟨v0, v1, v2, v3, d0, d1, d2, d3, p0, p1, p2, p3, rfl, rfl, rfl, h0, h1, h2, h3⟩ := trodAll_four hA
  obtain ⟨rfl, rfl⟩ := trodVars_none hV
  obtain ⟨a, rfl, rfl, rfl, wa⟩ := open_int Try.underlying3 (hval 0 3 v0 rfl rfl) h0
  obtain ⟨b, rfl, rfl, rfl, wb⟩ := open_int Try.underlying3 (hval 2 3 v2 rfl rfl) h2
  obtain ⟨c, rfl, rfl, rfl, wc⟩ := open_int Try.underlying3 (hval 3 3 v3 rfl rfl) h3
  obtain ⟨A, k, xs, rfl, hS, _⟩ := open_flat (f := encT_target_Sheet) (sz := 4) (by decide) (fun _ => rfl) Try.underlying24 fs_cells33 (fun _ => True) (fun _ _ _ => fs_sheet) h1 (okWide_slice Try.underlying24 (hval 1 24 v1 rfl rfl))
  have hg := w_klisterlaw03_TargetSheets a xs A k b c W _ (St.start W) hS (law_Sheets a xs b c)
  refine Calls.mono' hg fun e W' ⟨v, he, φ', L', hst, hv, _⟩ => ?_
  subst he; subst hv
  refine ⟨_, rfl, post_bool (P := Try.prog) hW' rfl fs_laid ?_ (t := 4) (by kernel_rfl) Try.underlying4 true rfl rfl rfl hst.kp0⟩
  rw [Try.params4]
  intro t ht
  simp only [List.mem_cons, List.not_mem_nil, or_false] at ht
  rcases ht with rfl | rfl | rfl | rfl
  · exact ⟨by kernel_rfl, of_decide_eq_true (by kernel_rfl)⟩
  · exact ⟨by kernel_rfl, of_decide_eq_true (by kernel_rfl)⟩
  · exact ⟨by kernel_rfl, of_decide_eq_true (by kernel_rfl)⟩
  · exact ⟨by kernel_rfl, of_decide_eq_true (by kernel_rfl)⟩

theorem target_sheets : Rows.TargetSheetsSaid :=
  OpenClaim.holds_of_wide 4 Try.f4 rfl rfl rfl rfl rfl rfl rfl ⟨rfl, rfl, rfl, rfl, rfl⟩ rfl rfl rfl rfl rfl (by kernel_rfl) Try.func4 (by kernel_rfl)
    (of_decide_eq_true (by kernel_rfl)) (by unfold Func.isWrapper; rw [if_neg (by decide +kernel)]; exact ⟨rfl, rfl⟩)
    (fun os started H enc _ => fs_lifted os started H enc)

#print axioms target_sheets
end Go.Proofs.Ytnllmignponhdaa
