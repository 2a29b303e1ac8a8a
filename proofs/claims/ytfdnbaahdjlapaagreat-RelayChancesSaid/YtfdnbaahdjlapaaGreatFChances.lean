/-
  'klisterlaw08.RelayChances' answers true, whatever is passed in, which reads as it did.
-/
import Derived.Test.YtfdnbaahdjlapaaGreatRows
import Derived.Test.YtfdnbaahdjlapaaGreatVR
import Derived.Test.YtfdnbaahdjlapaaGreatW1
import Derived.Test.YtfdnbaahdjlapaaGreatPChances
namespace Go.Proofs.YtfdnbaahdjlapaaGreat
open Go.KL
open Go.ChangeShapes Go.WideShapes Go.ChangeAt Go.RowKit

theorem fChances_own : ownKnob Tryz.prog.godebug = none := by kernel_rfl
theorem fChances_laid : laidOutB Tryz.prog = true := by kernel_rfl
theorem fChances_cells46 : Tryz.prog.cellsOf 46 = 2 := by kernel_rfl
theorem fChances_len2 {α : Type} {l : List α} (h : l.length = 2) : ∃ c0 c1, l = [c0, c1] :=
  match l, h with
  | [c0, c1], _ => ⟨c0, c1, rfl⟩
theorem fChances_cells3 : Tryz.prog.cellsOf 3 = 1 := by kernel_rfl
theorem fChances_e46 {H : Type} {enc : TypeId × Value → H} {W : World} {n : Nat} {cs : List Value} {y : DataW H × List MemPlace} (h : DataW.trod enc Tryz.prog W 0 (fun _ => true) true n 46 cs = some y) : ∃ x, cs = encT_api_Span x ∧ True := by
  obtain ⟨hl, k, hf⟩ := trod_fields Tryz.underlying46 h
  rw [fChances_cells46] at hl
  obtain ⟨c0, c1, rfl⟩ := fChances_len2 hl
  have g0 : ∃ y, DataW.trod enc Tryz.prog W 0 (fun _ => true) true k 3 (([c0, c1].drop 0).take (Tryz.prog.cellsOf 3)) = some y := hf 0 _ rfl
  rw [fChances_cells3] at g0
  obtain ⟨_, g0⟩ := g0
  obtain ⟨i1, e1, _, _⟩ := DataW.trod_int Tryz.underlying3 g0
  have g2 : ∃ y, DataW.trod enc Tryz.prog W 0 (fun _ => true) true k 3 (([c0, c1].drop 1).take (Tryz.prog.cellsOf 3)) = some y := hf 1 _ rfl
  rw [fChances_cells3] at g2
  obtain ⟨_, g2⟩ := g2
  obtain ⟨i3, e3, _, _⟩ := DataW.trod_int Tryz.underlying3 g2
  simp only [List.drop_zero, List.drop_succ_cons, List.take_succ_cons, List.take_zero, List.cons.injEq, and_true] at e1 e3
  subst e1 e3
  exact ⟨⟨i1, i3⟩, rfl, trivial⟩

set_option maxRecDepth 100000 in
theorem fChances_lifted (os : Os) (started : os.Started) (H : Type) (enc : TypeId × Value → H) :
    ReturnsInHanded {} Tryz.checked os 4 .any (Rows.relayChancesSpec.pre6 enc Tryz.prog Tryz.f4 Rows.relayChancesRow.domain false) (Rows.relayChancesSpec.post enc Tryz.prog Tryz.f4 false true false false) := by
  refine returnsInHanded_of_change (C := Tryz.checked) fChances_own started (by kernel_rfl) Tryz.func4
    (ChangeSpec.witness6 (enc := enc) (C := Tryz.checked) false ⟨#[], #[.slice none 0 0], []⟩ 8 (by kernel_rfl) (by kernel_rfl) (by kernel_rfl) (by kernel_rfl)) ?_
  intro W base args ds gs before hval0 hW hcnd _
  have hval : ∀ (j : Nat) t v, Tryz.f4.params[j]? = some t → args[j]? = some v → Value.okWide Tryz.prog W .any base t v := hval0
  have hW' := hW
  obtain ⟨p, q, hA0, hV, rfl, hfz, hnd⟩ := hW
  have hA : DataW.TrodAll enc Tryz.prog W 0 (fun _ => true) true Tryz.f4.params.toList args.toList ds p := hA0
  rw [Tryz.params4] at hA hval
  obtain ⟨v0, d0, rfl, rfl, h0⟩ := trodAll_one hA
  obtain ⟨rfl, rfl⟩ := trodVars_none hV
  obtain ⟨A0, k0, xs0, rfl, hS0, _⟩ := open_flat (f := encT_api_Span) (sz := 2) (by decide) (fun _ => rfl) Tryz.underlying43 fChances_cells46 (fun _ => True) (fun _ _ _ => fChances_e46) h0 (okWide_slice Tryz.underlying43 (hval 0 43 v0 rfl rfl))
  have hg := w_klisterlaw08_RelayChances xs0 A0 k0 W _ (St.start W) hS0 (law_Chances xs0)
  refine Calls.mono' hg fun e W' ⟨v, he, φ', L', hst, hv, _⟩ => ?_
  subst he; subst hv
  refine ⟨_, rfl, post_bool (P := Tryz.prog) hW' rfl fChances_laid ?_ (t := 4) (by kernel_rfl) Tryz.underlying4 true rfl rfl rfl hst.kp0⟩
  rw [Tryz.params4]
  intro t ht
  simp only [List.mem_cons, List.not_mem_nil, or_false] at ht
  subst ht
  · exact ⟨by kernel_rfl, of_decide_eq_true (by kernel_rfl)⟩

theorem relay_chances : Rows.RelayChancesSaid :=
  OpenClaim.holds_of_wide 4 Tryz.f4 rfl rfl rfl rfl rfl rfl rfl ⟨rfl, rfl, rfl, rfl, rfl⟩ rfl rfl rfl rfl rfl (by kernel_rfl) Tryz.func4 (by kernel_rfl)
    (of_decide_eq_true (by kernel_rfl)) (by unfold Func.isWrapper; rw [if_neg (by decide +kernel)]; exact ⟨rfl, rfl⟩)
    (fun os started H enc _ => fChances_lifted os started H enc)

#print axioms relay_chances
end Go.Proofs.YtfdnbaahdjlapaaGreat
