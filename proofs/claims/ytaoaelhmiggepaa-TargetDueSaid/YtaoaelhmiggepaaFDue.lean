/-
  'klisterlaw03.TargetDue' answers true, whatever is passed in, which reads as it did.
-/
import Derived.Test.YtaoaelhmiggepaaRows
import Derived.Test.YtaoaelhmiggepaaVR
import Derived.Test.YtaoaelhmiggepaaW5
import Derived.Test.YtaoaelhmiggepaaPDue
namespace Go.Proofs.Ytaoaelhmiggepaa
open Go.KL
open Go.ChangeShapes Go.WideShapes Go.ChangeAt Go.RowKit

theorem fDue_own : ownKnob Try.prog.godebug = none := by kernel_rfl
theorem fDue_laid : laidOutB Try.prog = true := by kernel_rfl
theorem fDue_e3 {H : Type} {enc : TypeId × Value → H} {W : World} {n : Nat} {cs : List Value} {y : DataW H × List MemPlace} (h : DataW.trod enc Try.prog W 0 (fun _ => true) true n 3 cs = some y) : ∃ x, cs = encI x ∧ True := by
  obtain ⟨x, e, _, _⟩ := DataW.trod_int Try.underlying3 h
  exact ⟨x, e, trivial⟩
theorem fDue_cells3 : Try.prog.cellsOf 3 = 1 := by kernel_rfl
theorem fDue_cells31 : Try.prog.cellsOf 31 = 4 := by kernel_rfl
theorem fDue_len4 {α : Type} {l : List α} (h : l.length = 4) : ∃ c0 c1 c2 c3, l = [c0, c1, c2, c3] :=
  match l, h with
  | [c0, c1, c2, c3], _ => ⟨c0, c1, c2, c3, rfl⟩
theorem fDue_cells29 : Try.prog.cellsOf 29 = 2 := by kernel_rfl
theorem fDue_e31 {H : Type} {enc : TypeId × Value → H} {W : World} {n : Nat} {cs : List Value} {y : DataW H × List MemPlace} (h : DataW.trod enc Try.prog W 0 (fun _ => true) true n 31 cs = some y) : ∃ x, cs = encT_target_Sheet x ∧ True := by
  obtain ⟨hl, k, hf⟩ := trod_fields Try.underlying31 h
  rw [fDue_cells31] at hl
  obtain ⟨c0, c1, c2, c3, rfl⟩ := fDue_len4 hl
  have g0 : ∃ y, DataW.trod enc Try.prog W 0 (fun _ => true) true k 3 (([c0, c1, c2, c3].drop 0).take (Try.prog.cellsOf 3)) = some y := hf 0 _ rfl
  rw [fDue_cells3] at g0
  obtain ⟨_, g0⟩ := g0
  obtain ⟨i1, e1, _, _⟩ := DataW.trod_int Try.underlying3 g0
  have g2 : ∃ y, DataW.trod enc Try.prog W 0 (fun _ => true) true k 3 (([c0, c1, c2, c3].drop 1).take (Try.prog.cellsOf 3)) = some y := hf 1 _ rfl
  rw [fDue_cells3] at g2
  obtain ⟨_, g2⟩ := g2
  obtain ⟨i3, e3, _, _⟩ := DataW.trod_int Try.underlying3 g2
  have g4 : ∃ y, DataW.trod enc Try.prog W 0 (fun _ => true) true k 29 (([c0, c1, c2, c3].drop 2).take (Try.prog.cellsOf 29)) = some y := hf 2 _ rfl
  rw [fDue_cells29] at g4
  obtain ⟨_, g4⟩ := g4
  obtain ⟨_, k5, hf5⟩ := trod_fields Try.underlying29 g4
  have g6 : ∃ y, DataW.trod enc Try.prog W 0 (fun _ => true) true k5 3 (([c2, c3].drop 0).take (Try.prog.cellsOf 3)) = some y := hf5 0 _ rfl
  rw [fDue_cells3] at g6
  obtain ⟨_, g6⟩ := g6
  obtain ⟨i7, e7, _, _⟩ := DataW.trod_int Try.underlying3 g6
  have g8 : ∃ y, DataW.trod enc Try.prog W 0 (fun _ => true) true k5 3 (([c2, c3].drop 1).take (Try.prog.cellsOf 3)) = some y := hf5 1 _ rfl
  rw [fDue_cells3] at g8
  obtain ⟨_, g8⟩ := g8
  obtain ⟨i9, e9, _, _⟩ := DataW.trod_int Try.underlying3 g8
  simp only [List.drop_zero, List.drop_succ_cons, List.take_succ_cons, List.take_zero, List.cons.injEq, and_true] at e1 e3 e7 e9
  subst e1 e3 e7 e9
  exact ⟨⟨i1, i3, ⟨i7, i9⟩⟩, rfl, trivial⟩
theorem fDue_cells35 : Try.prog.cellsOf 35 = 2 := by kernel_rfl
theorem fDue_len2 {α : Type} {l : List α} (h : l.length = 2) : ∃ c0 c1, l = [c0, c1] :=
  match l, h with
  | [c0, c1], _ => ⟨c0, c1, rfl⟩
theorem fDue_cells33 : Try.prog.cellsOf 33 = 1 := by kernel_rfl
theorem fDue_e35 {H : Type} {enc : TypeId × Value → H} {W : World} {n : Nat} {cs : List Value} {y : DataW H × List MemPlace} (h : DataW.trod enc Try.prog W 0 (fun _ => true) true n 35 cs = some y) : ∃ x, cs = encT_target_Step x ∧ True := by
  obtain ⟨hl, k, hf⟩ := trod_fields Try.underlying35 h
  rw [fDue_cells35] at hl
  obtain ⟨c0, c1, rfl⟩ := fDue_len2 hl
  have g0 : ∃ y, DataW.trod enc Try.prog W 0 (fun _ => true) true k 33 (([c0, c1].drop 0).take (Try.prog.cellsOf 33)) = some y := hf 0 _ rfl
  rw [fDue_cells33] at g0
  obtain ⟨_, g0⟩ := g0
  obtain ⟨i1, e1, _, _⟩ := DataW.trod_int Try.underlying33 g0
  have g2 : ∃ y, DataW.trod enc Try.prog W 0 (fun _ => true) true k 3 (([c0, c1].drop 1).take (Try.prog.cellsOf 3)) = some y := hf 1 _ rfl
  rw [fDue_cells3] at g2
  obtain ⟨_, g2⟩ := g2
  obtain ⟨i3, e3, _, _⟩ := DataW.trod_int Try.underlying3 g2
  simp only [List.drop_zero, List.drop_succ_cons, List.take_succ_cons, List.take_zero, List.cons.injEq, and_true] at e1 e3
  subst e1 e3
  exact ⟨⟨i1, i3⟩, rfl, trivial⟩

set_option maxRecDepth 100000 in
theorem fDue_lifted (os : Os) (started : os.Started) (H : Type) (enc : TypeId × Value → H) :
    ReturnsInHanded {} Try.checked os 3 .any (Rows.targetDueSpec.pre6 enc Try.prog Try.f3 Rows.targetDueRow.domain false) (Rows.targetDueSpec.post enc Try.prog Try.f3 false true false false) := by
  refine returnsInHanded_of_change (C := Try.checked) fDue_own started (by kernel_rfl) Try.func3
    (ChangeSpec.witness6 (enc := enc) (C := Try.checked) false ⟨#[], #[.slice none 0 0, .slice none 0 0, .slice none 0 0], []⟩ 8 (by kernel_rfl) (by kernel_rfl) (by kernel_rfl) (by kernel_rfl)) ?_
  intro W base args ds gs before hval0 hW hcnd _
  have hval : ∀ (j : Nat) t v, Try.f3.params[j]? = some t → args[j]? = some v → Value.okWide Try.prog W .any base t v := hval0
  have hW' := hW
  obtain ⟨p, q, hA0, hV, rfl, hfz, hnd⟩ := hW
  have hA : DataW.TrodAll enc Try.prog W 0 (fun _ => true) true Try.f3.params.toList args.toList ds p := hA0
  rw [Try.params3] at hA hval
  obtain ⟨v0, v1, v2, d0, d1, d2, p0, p1, p2, rfl, rfl, rfl, h0, h1, h2⟩ := trodAll_three hA
  obtain ⟨rfl, rfl⟩ := trodVars_none hV
  obtain ⟨A0, k0, xs0, rfl, hS0, _⟩ := open_flat (f := encI) (sz := 1) (by decide) (fun _ => rfl) Try.underlying22 fDue_cells3 (fun _ => True) (fun _ _ _ => fDue_e3) h0 (okWide_slice Try.underlying22 (hval 0 22 v0 rfl rfl))
  obtain ⟨A1, k1, xs1, rfl, hS1, _⟩ := open_flat (f := encT_target_Sheet) (sz := 4) (by decide) (fun _ => rfl) Try.underlying23 fDue_cells31 (fun _ => True) (fun _ _ _ => fDue_e31) h1 (okWide_slice Try.underlying23 (hval 1 23 v1 rfl rfl))
  obtain ⟨A2, k2, xs2, rfl, hS2, _⟩ := open_flat (f := encT_target_Step) (sz := 2) (by decide) (fun _ => rfl) Try.underlying24 fDue_cells35 (fun _ => True) (fun _ _ _ => fDue_e35) h2 (okWide_slice Try.underlying24 (hval 2 24 v2 rfl rfl))
  have hg := w_klisterlaw03_TargetDue xs0 A0 k0 xs1 A1 k1 xs2 A2 k2 W _ (St.start W) hS0 hS1 hS2 (law_Due xs0 xs1 xs2)
  refine Calls.mono' hg fun e W' ⟨v, he, φ', L', hst, hv, _⟩ => ?_
  subst he; subst hv
  refine ⟨_, rfl, post_bool (P := Try.prog) hW' rfl fDue_laid ?_ (t := 4) (by kernel_rfl) Try.underlying4 true rfl rfl rfl hst.kp0⟩
  rw [Try.params3]
  intro t ht
  simp only [List.mem_cons, List.not_mem_nil, or_false] at ht
  rcases ht with rfl | rfl | rfl
  · exact ⟨by kernel_rfl, of_decide_eq_true (by kernel_rfl)⟩
  · exact ⟨by kernel_rfl, of_decide_eq_true (by kernel_rfl)⟩
  · exact ⟨by kernel_rfl, of_decide_eq_true (by kernel_rfl)⟩

theorem target_due : Rows.TargetDueSaid :=
  OpenClaim.holds_of_wide 3 Try.f3 rfl rfl rfl rfl rfl rfl rfl ⟨rfl, rfl, rfl, rfl, rfl⟩ rfl rfl rfl rfl rfl (by kernel_rfl) Try.func3 (by kernel_rfl)
    (of_decide_eq_true (by kernel_rfl)) (by unfold Func.isWrapper; rw [if_neg (by decide +kernel)]; exact ⟨rfl, rfl⟩)
    (fun os started H enc _ => fDue_lifted os started H enc)

#print axioms target_due
end Go.Proofs.Ytaoaelhmiggepaa
