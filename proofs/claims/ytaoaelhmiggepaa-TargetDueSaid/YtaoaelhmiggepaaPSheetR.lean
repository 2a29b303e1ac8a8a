/- Sheets as the reference checks them. -/
import Derived.Test.YtaoaelhmiggepaaPSheetA
namespace Go.Proofs.Ytaoaelhmiggepaa
open Go.KL

theorem outside_is (x a b : Int) : m_klisterref03_outside x a b = some (decide (x < a ∨ b < x)) := by
  unfold m_klisterref03_outside
  by_cases h : x < a <;> simp [h]

/-- Sheets as the reference has them. -/
def refSheet (s : T_target_Sheet) : T_klisterref03_Sheet := ⟨s.From, s.To, s.Loops⟩
theorem sheets_eq {l : List T_target_Sheet} (hl : l.length ≤ 1000) : m_klisterlaw03_Sheets l = some (l.map refSheet) := by
  unfold m_klisterlaw03_Sheets
  rw [loop_map (f := refSheet) (bytes := 32) (g := fun x41 l14 => (app 32 l14 [(⟨x41.From, x41.To, x41.Loops⟩ : T_klisterref03_Sheet)]).bind fun x61 => some x61) (fun a _ r => by simp [refSheet]) (by omega) (by omega)]
  rfl
theorem refCheck_eq (n : Int) (l : List T_target_Sheet) : m_klisterref03_CheckSheets n (l.map refSheet) = some (shErr n l) := by
  unfold m_klisterref03_CheckSheets shErr
  rw [List.length_map]
  by_cases h1 : n < 1
  · rw [if_pos h1, if_pos (by omega)]
  rw [if_neg h1]
  by_cases h2 : 8 < n
  · rw [if_pos h2, if_pos (by omega)]
  rw [if_neg h2]
  by_cases h3 : 20 < (l.length : Int)
  · rw [if_pos h3, if_pos (by omega)]
  rw [if_neg h3, if_neg (by omega)]
  have e1 := loop_all (R := Int) (l := l.map refSheet) (g := fun x32 => if x32.From < 0 then esc (some 1) else if n ≤ x32.To then esc (some 1) else if x32.To < x32.From then esc (some 1) else some (.inl ())) (p := fun x => decide (0 ≤ x.From ∧ x.From ≤ x.To ∧ x.To < n)) (z := 1)
    (K := fun _ => jn (forR 0 (↑l.length : Int) (fun k82 _ =>
          (idx (l.map refSheet) (↑k82 : Int)).bind fun x102 =>
          if x102.Loops.Lo < 0 then
            esc (some 3)
          else
            if 72 < x102.Loops.Hi then
              esc (some 3)
            else
              if x102.Loops.Hi < x102.Loops.Lo then
                esc (some 3)
              else
                some (.inl ())) ()) fun _ =>
        some 0)
    (by
      intro a _
      by_cases g1 : a.From < 0
      · simp [g1] <;> omega
      · by_cases g2 : n ≤ a.To
        · simp [g1, g2] <;> omega
        · by_cases g3 : a.To < a.From
          · simp [g1, g2, g3] <;> omega
          · simp [g1, g2, g3] <;> omega) (by rw [List.length_map]; omega)
  have e2 := loop_all (R := Int) (l := l.map refSheet) (g := fun x102 => if x102.Loops.Lo < 0 then esc (some 3) else if 72 < x102.Loops.Hi then esc (some 3) else if x102.Loops.Hi < x102.Loops.Lo then esc (some 3) else some (.inl ())) (p := fun x => decide (0 ≤ x.Loops.Lo ∧ x.Loops.Lo ≤ x.Loops.Hi ∧ x.Loops.Hi ≤ 72)) (z := 3) (K := fun _ => some 0)
    (by
      intro a _
      by_cases g1 : a.Loops.Lo < 0
      · simp [g1] <;> omega
      · by_cases g2 : 72 < a.Loops.Hi
        · simp [g1, g2] <;> omega
        · by_cases g3 : a.Loops.Hi < a.Loops.Lo
          · simp [g1, g2, g3] <;> omega
          · simp [g1, g2, g3] <;> omega) (by rw [List.length_map]; omega)
  rw [List.length_map] at e1 e2
  rw [e1, e2, List.all_map, List.all_map]
  have f1 : ((fun x : T_klisterref03_Sheet => decide (0 ≤ x.From ∧ x.From ≤ x.To ∧ x.To < n)) ∘ refSheet) = shPlace n := rfl
  have f2 : ((fun x : T_klisterref03_Sheet => decide (0 ≤ x.Loops.Lo ∧ x.Loops.Lo ≤ x.Loops.Hi ∧ x.Loops.Hi ≤ 72)) ∘ refSheet) = shRange := rfl
  rw [f1, f2]
  by_cases g : l.all (shPlace n) = true
  · rw [if_pos g, if_pos g]
    split <;> rfl
  · rw [if_neg g, if_neg g]

end Go.Proofs.Ytaoaelhmiggepaa
