/-
  'klisterlaw03.TargetDone' answers true, whatever the numbers; what is passed in reads as it did.
-/
import Derived.Test.YtnllmignponhdaaRows
import Derived.Test.YtnllmignponhdaaVR
import Derived.Test.YtnllmignponhdaaW3
import Derived.Test.YtnllmignponhdaaPDoneB
namespace Go.Proofs.Ytnllmignponhdaa
open Go.KL
open Go.ChangeShapes Go.WideShapes Go.ChangeAt Go.RowKit

theorem fd_own : ownKnob Try.prog.godebug = none := by kernel_rfl
theorem fd_laid : laidOutB Try.prog = true := by kernel_rfl
theorem fd_cells5 : Try.prog.cellsOf 5 = 1 := by kernel_rfl

theorem fd_byte {H : Type} {enc : TypeId × Value → H} {W : World} {n : Nat} {cs : List Value} {y : DataW H × List MemPlace} (h : DataW.trod enc Try.prog W 0 (fun _ => true) true n 5 cs = some y) : ∃ x, cs = encB8 x ∧ True := by
  obtain ⟨x, e, _, _⟩ := DataW.trod_int Try.underlying5 h
  exact ⟨x, e, trivial⟩

set_option maxRecDepth 100000 in
theorem fd_lifted (os : Os) (started : os.Started) (H : Type) (enc : TypeId × Value → H) :
    ReturnsInHanded {} Try.checked os 13 .any (Rows.targetDoneSpec.pre6 enc Try.prog Try.f13 Rows.targetDoneRow.domain false) (Rows.targetDoneSpec.post enc Try.prog Try.f13 false true false false) := by
  refine returnsInHanded_of_change (C := Try.checked) fd_own started (by kernel_rfl) Try.func13
    (ChangeSpec.witness6 (enc := enc) (C := Try.checked) false ⟨#[], #[.slice none 0 0, .slice none 0 0, .int .u8 0, .int .u8 0], []⟩ 8 (by kernel_rfl) (by kernel_rfl) (by kernel_rfl) (by kernel_rfl)) ?_
  intro W base args ds gs before hval0 hW hcnd _
  have hval : ∀ (j : Nat) t v, Try.f13.params[j]? = some t → args[j]? = some v → Value.okWide Try.prog W .any base t v := hval0
  have hW' := hW
  obtain ⟨p, q, hA0, hV, rfl, hfz, hnd⟩ := hW
  have hA : DataW.TrodAll enc Try.prog W 0 (fun _ => true) true Try.f13.params.toList args.toList ds p := hA0
  rw [Try.params13] at hA hval
  obtain ⟨v0, v1, v2, v3, d0, d1, d2, d3, p0, p1, p2, p3, rfl, rfl, rfl, h0, h1, h2, h3⟩ := trodAll_four hA
  obtain ⟨rfl, rfl⟩ := trodVars_none hV
  obtain ⟨A, k, xs, rfl, hS, _⟩ := open_flat (f := encB8) (sz := 1) (by decide) (fun _ => rfl) Try.underlying22 fd_cells5 (fun _ => True) (fun _ _ _ => fd_byte) h0 (okWide_slice Try.underlying22 (hval 0 22 v0 rfl rfl))
  obtain ⟨A', k', ys, rfl, hS', _⟩ := open_flat (f := encB8) (sz := 1) (by decide) (fun _ => rfl) Try.underlying22 fd_cells5 (fun _ => True) (fun _ _ _ => fd_byte) h1 (okWide_slice Try.underlying22 (hval 1 22 v1 rfl rfl))
  obtain ⟨a, rfl, rfl, rfl, wa⟩ := open_int Try.underlying5 (hval 2 5 v2 rfl rfl) h2
  obtain ⟨b, rfl, rfl, rfl, wb⟩ := open_int Try.underlying5 (hval 3 5 v3 rfl rfl) h3
  have ha : 0 ≤ a ∧ a ≤ 255 := by simpa [Lit.wf, IntKind.min, IntKind.max, IntKind.signed, IntKind.bits] using wa
  have hb : 0 ≤ b ∧ b ≤ 255 := by simpa [Lit.wf, IntKind.min, IntKind.max, IntKind.signed, IntKind.bits] using wb
  have hg := w_klisterlaw03_TargetDone xs A k ys A' k' a b W _ (St.start W) hS hS' (law_Done xs ys a b ha.1 ha.2 hb.1 hb.2)
  refine Calls.mono' hg fun e W' ⟨v, he, φ', L', hst, hv, _⟩ => ?_
  subst he; subst hv
  refine ⟨_, rfl, post_bool (P := Try.prog) hW' rfl fd_laid ?_ (t := 4) (by kernel_rfl) Try.underlying4 true rfl rfl rfl hst.kp0⟩
  rw [Try.params13]
  intro t ht
  simp only [List.mem_cons, List.not_mem_nil, or_false] at ht
  rcases ht with rfl | rfl | rfl | rfl
  · exact ⟨by kernel_rfl, of_decide_eq_true (by kernel_rfl)⟩
  · exact ⟨by kernel_rfl, of_decide_eq_true (by kernel_rfl)⟩
  · exact ⟨by kernel_rfl, of_decide_eq_true (by kernel_rfl)⟩
  · exact ⟨by kernel_rfl, of_decide_eq_true (by kernel_rfl)⟩

theorem target_done : Rows.TargetDoneSaid :=
  OpenClaim.holds_of_wide 13 Try.f13 rfl rfl rfl rfl rfl rfl rfl ⟨rfl, rfl, rfl, rfl, rfl⟩ rfl rfl rfl rfl rfl (by kernel_rfl) Try.func13 (by kernel_rfl)
    (of_decide_eq_true (by kernel_rfl)) (by unfold Func.isWrapper; rw [if_neg (by decide +kernel)]; exact ⟨rfl, rfl⟩)
    (fun os started H enc _ => fd_lifted os started H enc)

#print axioms target_done
end Go.Proofs.Ytnllmignponhdaa
