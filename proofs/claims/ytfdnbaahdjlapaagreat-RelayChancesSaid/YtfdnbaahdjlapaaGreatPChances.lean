/- The plain law of RelayChances. -/
import Derived.Test.YtfdnbaahdjlapaaGreatPChance
namespace Go.Proofs.YtfdnbaahdjlapaaGreat
open Go.KL

theorem law_Chances (l : List T_api_Span) : m_klisterlaw08_RelayChances l = some true := by
  unfold m_klisterlaw08_RelayChances
  by_cases h : 44 < (l.length : Int)
  · rw [if_pos h]; rfl
  have hc : m_klisterkit_Clone_api_Span l = some l := by
    unfold m_klisterkit_Clone_api_Span
    rw [app_ok (by simp; omega)]
    rfl
  have he : ∀ m : List T_api_Span, m.length ≤ 9223372036854775807 → m_klisterkit_Equal_api_Span m m = some true := fun m hm => by
    unfold m_klisterkit_Equal_api_Span
    rw [loop_equal hm]
    simp
  have hlen : (chances l).1.length ≤ 9223372036854775807 := by
    unfold chances
    split
    · simp
    · split
      · simp [plcs]; omega
      · simp
  rw [if_neg h, hc, Option.bind_some, prog_chances (by omega), Option.bind_some, ref_chances (by omega)]
  rcases hq : chances l with ⟨a, b⟩
  rw [hq] at hlen
  simp only [Option.bind_some, if_true]
  rw [he a hlen, Option.bind_some, if_pos rfl, he l (by omega), Option.bind_some, if_pos rfl]
  rfl
end Go.Proofs.YtfdnbaahdjlapaaGreat
