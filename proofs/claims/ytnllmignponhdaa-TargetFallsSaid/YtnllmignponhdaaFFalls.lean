/-
  'klisterlaw03.TargetFalls' answers true, whatever the position and the shots; what is passed in reads as it did.
-/
import Derived.Test.YtnllmignponhdaaRows
import Derived.Test.YtnllmignponhdaaVR
import Derived.Test.YtnllmignponhdaaW1
import Derived.Test.YtnllmignponhdaaPFallsB
namespace Go.Proofs.Ytnllmignponhdaa
open Go.KL
open Go.ChangeShapes Go.WideShapes Go.ChangeAt Go.RowKit

theorem fl_own : ownKnob Try.prog.godebug = none := by kernel_rfl
theorem fl_laid : laidOutB Try.prog = true := by kernel_rfl
theorem fl_cells59 : Try.prog.cellsOf 59 = 2 := by kernel_rfl
theorem fl_cells3 : Try.prog.cellsOf 3 = 1 := by kernel_rfl

theorem fl_shots {H : Type} {enc : TypeId × Value → H} {W : World} {v : Value} {d : DataW H} {ps : List MemPlace} (h : DataW.Trod enc Try.prog W 0 (fun _ => true) true 56 v d ps) (hv : ∃ a len cap, v = .slice a len cap) :
    ∃ (A : Option Addr) (c : Nat) (xs : List T_target_Shot), v = .slice A xs.length c ∧ Sl (fun b => W.heap[b]?) 2 A c xs.length (xs.flatMap encT_target_Shot) := by
  obtain ⟨n, hn⟩ := h
  obtain ⟨a, len, cap, rfl⟩ := hv
  have hcs : (Value.slice a len cap).cells.toList = [Value.slice a len cap] := by simp [Value.cells]
  rw [hcs] at hn
  rcases Deep.open_slice_pairs Try.underlying56 Try.underlying59 fl_cells59 rfl rfl fl_cells3 fl_cells3 hn with ⟨h1, _⟩ | ⟨a', len', cap', m, k, V0, V1, D0, D1, P0, P1, h1, _, hl, _, hm, _, hc⟩
  · simp only [List.cons.injEq, Value.slice.injEq, and_true] at h1
    obtain ⟨rfl, rfl, rfl⟩ := h1
    exact ⟨none, 0, [], rfl, Sl.nil _ _ _ _⟩
  · simp only [List.cons.injEq, Value.slice.injEq, and_true] at h1
    obtain ⟨rfl, rfl, rfl⟩ := h1
    simp only [if_true] at hm
    subst hm
    have each : ∀ i, i < len → ∃ s : T_target_Shot, W.cell? (a'.add (i * 2)) = some (.int .i64 s.X) ∧ W.cell? (a'.add (i * 2 + 1)) = some (.int .i64 s.Y) := by
      intro i hi
      obtain ⟨c0, c1, t0, t1⟩ := hc i (by omega)
      obtain ⟨x, e0, _, _⟩ := DataW.trod_int Try.underlying3 t0
      obtain ⟨y, e1, _, _⟩ := DataW.trod_int Try.underlying3 t1
      simp only [List.cons.injEq, and_true] at e0 e1
      rw [e0] at c0
      rw [e1] at c1
      exact ⟨⟨x, y⟩, c0, c1⟩
    obtain ⟨s, hs⟩ := Deep.choose_lt each
    have hlen : ((List.range len).map s).length = len := by simp
    refine ⟨some a', m, (List.range len).map s, by rw [hlen], ?_⟩
    rw [hlen]
    have hfl : ((List.range len).map s).flatMap encT_target_Shot = (List.range len).flatMap fun i => [.int .i64 (s i).X, .int .i64 (s i).Y] := by
      rw [List.flatMap_map]
      rfl
    rw [hfl]
    refine sl_of_cells (by decide) ?_ hl ?_
    · rw [List.length_flatMap]
      simp [List.map_const', Nat.mul_comm]
    · intro j v hj
      have key : ∀ (n : Nat) (j : Nat) (v : Value), ((List.range n).flatMap fun i => [Value.int .i64 (s i).X, .int .i64 (s i).Y])[j]? = some v →
          j / 2 < n ∧ v = if j % 2 = 0 then .int .i64 (s (j / 2)).X else .int .i64 (s (j / 2)).Y := by
        intro n
        induction n with
        | zero => intro j v h; simp at h
        | succ n ih =>
          intro j v h
          rw [List.range_succ, List.flatMap_append] at h
          have hL : ((List.range n).flatMap fun i => [Value.int .i64 (s i).X, .int .i64 (s i).Y]).length = n * 2 := by
            rw [List.length_flatMap]
            simp [List.map_const', Nat.mul_comm]
          rcases Nat.lt_or_ge j (n * 2) with hlt | hge
          · rw [List.getElem?_append_left (by omega)] at h
            obtain ⟨h1, h2⟩ := ih j v h
            exact ⟨by omega, h2⟩
          · rw [List.getElem?_append_right (by omega), hL] at h
            simp only [List.flatMap_cons, List.flatMap_nil, List.append_nil] at h
            have hj2 : j - n * 2 = 0 ∨ j - n * 2 = 1 := by
              have := (List.getElem?_eq_some_iff.1 h).1
              simp at this
              omega
            rcases hj2 with e | e
            · rw [e] at h
              have : j = n * 2 := by omega
              subst this
              simp at h
              simp [← h]
            · rw [e] at h
              have : j = n * 2 + 1 := by omega
              subst this
              simp at h
              have e2 : (n * 2 + 1) / 2 = n := by omega
              rw [e2]
              simp [← h, Nat.add_mod]
      obtain ⟨hj1, rfl⟩ := key len j v hj
      obtain ⟨g0, g1⟩ := hs (j / 2) hj1
      by_cases hp : j % 2 = 0
      · rw [if_pos hp]
        have : j = j / 2 * 2 := by omega
        rw [← this] at g0
        exact g0
      · rw [if_neg hp]
        have : j = j / 2 * 2 + 1 := by omega
        rw [← this] at g1
        exact g1

set_option maxRecDepth 100000 in
theorem fl_lifted (os : Os) (started : os.Started) (H : Type) (enc : TypeId × Value → H) :
    ReturnsInHanded {} Try.checked os 5 .any (Rows.targetFallsSpec.pre6 enc Try.prog Try.f5 Rows.targetFallsRow.domain false) (Rows.targetFallsSpec.post enc Try.prog Try.f5 false true false false) := by
  refine returnsInHanded_of_change (C := Try.checked) fl_own started (by kernel_rfl) Try.func5
    (ChangeSpec.witness6 (enc := enc) (C := Try.checked) false ⟨#[], #[.int .i64 0, .slice none 0 0], []⟩ 8 (by kernel_rfl) (by kernel_rfl) (by kernel_rfl) (by kernel_rfl)) ?_
  intro W base args ds gs before hval0 hW hcnd _
  have hval : ∀ (j : Nat) t v, Try.f5.params[j]? = some t → args[j]? = some v → Value.okWide Try.prog W .any base t v := hval0
  have hW' := hW
  obtain ⟨p, q, hA0, hV, rfl, hfz, hnd⟩ := hW
  have hA : DataW.TrodAll enc Try.prog W 0 (fun _ => true) true Try.f5.params.toList args.toList ds p := hA0
  rw [Try.params5] at hA hval
  obtain ⟨v0, v1, d0, d1, p0, p1, rfl, rfl, rfl, h0, h1⟩ := trodAll_two hA
  obtain ⟨rfl, rfl⟩ := trodVars_none hV
  obtain ⟨a, rfl, rfl, rfl, wa⟩ := open_int Try.underlying3 (hval 0 3 v0 rfl rfl) h0
  obtain ⟨A, c, xs, rfl, hS⟩ := fl_shots h1 (okWide_slice Try.underlying56 (hval 1 56 v1 rfl rfl))
  have hg := w_klisterlaw03_TargetFalls a xs A c W _ (St.start W) hS (law_Falls a xs)
  refine Calls.mono' hg fun e W' ⟨v, he, φ', L', hst, hv, _⟩ => ?_
  subst he; subst hv
  refine ⟨_, rfl, post_bool (P := Try.prog) hW' rfl fl_laid ?_ (t := 4) (by kernel_rfl) Try.underlying4 true rfl rfl rfl hst.kp0⟩
  rw [Try.params5]
  intro t ht
  simp only [List.mem_cons, List.not_mem_nil, or_false] at ht
  rcases ht with rfl | rfl
  · exact ⟨by kernel_rfl, of_decide_eq_true (by kernel_rfl)⟩
  · exact ⟨by kernel_rfl, of_decide_eq_true (by kernel_rfl)⟩

theorem target_falls : Rows.TargetFallsSaid :=
  OpenClaim.holds_of_wide 5 Try.f5 rfl rfl rfl rfl rfl rfl rfl ⟨rfl, rfl, rfl, rfl, rfl⟩ rfl rfl rfl rfl rfl (by kernel_rfl) Try.func5 (by kernel_rfl)
    (of_decide_eq_true (by kernel_rfl)) (by unfold Func.isWrapper; rw [if_neg (by decide +kernel)]; exact ⟨rfl, rfl⟩)
    (fun os started H enc _ => fl_lifted os started H enc)

#print axioms target_falls
end Go.Proofs.Ytnllmignponhdaa
