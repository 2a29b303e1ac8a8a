/-
  No cell of these rows narrows 'for every input' (looked for: loops, veiled, ifaces, maps, wideKeys, modest, calm, conditions, laid).
  DERIVED. THE GIVEN ROWS OF THIS SEAT. 5 by the template 'for every input the law returns true; each argument reads behind the call as it read before'; 0 by the template 'total and deterministic' (their statements: YtfdnbaahdjlapaaGreatTotals.lean).
  GIVEN WITH THE SEED: the statements are not yours to turn. If you find one false, say at which input.
  Laid BY PROGRAM, IN A SANDBOX (cutbox-rows.mjs): the forced cells as the released guide's own fill.sh prints them over the translation 5a1de15cbbeeed0b… (all of the seat's roots in one cut). By AI agents, Wed Nov 11 2026. No macro, syntax, notation, axiom, sorry.
-/
import Derived.Test.YtfdnbaahdjlapaaGreatChecked
import GoSem.Claim
import GoSem.ClaimJoined
import GoSem.ClaimMapViews
import Derived.JoinedTies
import Derived.KernelRfl
namespace Go.Proofs.YtfdnbaahdjlapaaGreat
/- THE CELL 'sum', in the pinned program and in every row, IS THE sha256 OF THE DUMP (.gsa) THAT YtfdnbaahdjlapaaGreatProg.lean LOADS. Nothing in Lean hashes anything: it is a label: what it is worth is what the hold of that sum in a sandbox is worth. -/
noncomputable def Tryz.pinned : Pinned := { name := "ytfdnbaahdjlapaagreat", sum := "5a1de15cbbeeed0b0d00e98b52faa0cedb08400aed5f76c86f2a8aa9a1ee13e0", checked := Tryz.checked }
namespace Rows
def none {H : Type} : Left H := { results := [], args := [] }

/-- 'klisterlaw08.RelayShots': WHATEVER THE INPUT: true; the input reads as it did. -/
def relayShotsSpec : ChangeSpec := { name := "relayShots", fn := fun _ => fun
  | [d1, d2] => { results := [.lit (.bool true)], args := [d1, d2] }
  | _ => none }
def relayShotsRow : OpenClaim := { program := "ytfdnbaahdjlapaagreat", sum := "5a1de15cbbeeed0b0d00e98b52faa0cedb08400aed5f76c86f2a8aa9a1ee13e0", func := "klister/klisterlaw08.RelayShots", spec := "relayShots", unfollowed := true, recurses := true, apart := false }
def RelayShotsSaid : Prop := relayShotsRow.holds Tryz.pinned (OpenSpec.ofChange relayShotsSpec)

/-- ITS FALSE NEIGHBOUR: 'it returns false'. Refute it at one input. -/
def relayShotsWrong : ChangeSpec := { name := "relayShots", fn := fun _ => fun
  | [d1, d2] => { results := [.lit (.bool false)], args := [d1, d2] }
  | _ => none }
def RelayShotsWrongFalsely : Prop := relayShotsRow.holds Tryz.pinned (OpenSpec.ofChange relayShotsWrong)

/-- 'klisterlaw08.RelayChances': WHATEVER THE INPUT: true; the input reads as it did. -/
def relayChancesSpec : ChangeSpec := { name := "relayChances", fn := fun _ => fun
  | [d] => { results := [.lit (.bool true)], args := [d] }
  | _ => none }
def relayChancesRow : OpenClaim := { program := "ytfdnbaahdjlapaagreat", sum := "5a1de15cbbeeed0b0d00e98b52faa0cedb08400aed5f76c86f2a8aa9a1ee13e0", func := "klister/klisterlaw08.RelayChances", spec := "relayChances", unfollowed := true, recurses := true, apart := false }
def RelayChancesSaid : Prop := relayChancesRow.holds Tryz.pinned (OpenSpec.ofChange relayChancesSpec)

/-- ITS FALSE NEIGHBOUR: 'it returns false'. Refute it at one input. -/
def relayChancesWrong : ChangeSpec := { name := "relayChances", fn := fun _ => fun
  | [d] => { results := [.lit (.bool false)], args := [d] }
  | _ => none }
def RelayChancesWrongFalsely : Prop := relayChancesRow.holds Tryz.pinned (OpenSpec.ofChange relayChancesWrong)

/-- 'klisterlaw08.RelayChanced': WHATEVER THE INPUT: true; the input reads as it did. -/
def relayChancedSpec : ChangeSpec := { name := "relayChanced", fn := fun _ => fun
  | [d1, d2] => { results := [.lit (.bool true)], args := [d1, d2] }
  | _ => none }
def relayChancedRow : OpenClaim := { program := "ytfdnbaahdjlapaagreat", sum := "5a1de15cbbeeed0b0d00e98b52faa0cedb08400aed5f76c86f2a8aa9a1ee13e0", func := "klister/klisterlaw08.RelayChanced", spec := "relayChanced", unfollowed := true, recurses := true, apart := false }
def RelayChancedSaid : Prop := relayChancedRow.holds Tryz.pinned (OpenSpec.ofChange relayChancedSpec)

/-- ITS FALSE NEIGHBOUR: 'it returns false'. Refute it at one input. -/
def relayChancedWrong : ChangeSpec := { name := "relayChanced", fn := fun _ => fun
  | [d1, d2] => { results := [.lit (.bool false)], args := [d1, d2] }
  | _ => none }
def RelayChancedWrongFalsely : Prop := relayChancedRow.holds Tryz.pinned (OpenSpec.ofChange relayChancedWrong)

/-- 'klisterlaw02.StartPursuits': WHATEVER THE INPUT: true; the input reads as it did. -/
def startPursuitsSpec : ChangeSpec := { name := "startPursuits", fn := fun _ => fun
  | [d1, d2] => { results := [.lit (.bool true)], args := [d1, d2] }
  | _ => none }
def startPursuitsRow : OpenClaim := { program := "ytfdnbaahdjlapaagreat", sum := "5a1de15cbbeeed0b0d00e98b52faa0cedb08400aed5f76c86f2a8aa9a1ee13e0", func := "klister/klisterlaw02.StartPursuits", spec := "startPursuits", unfollowed := true, recurses := true, apart := false }
def StartPursuitsSaid : Prop := startPursuitsRow.holds Tryz.pinned (OpenSpec.ofChange startPursuitsSpec)

/-- ITS FALSE NEIGHBOUR: 'it returns false'. Refute it at one input. -/
def startPursuitsWrong : ChangeSpec := { name := "startPursuits", fn := fun _ => fun
  | [d1, d2] => { results := [.lit (.bool false)], args := [d1, d2] }
  | _ => none }
def StartPursuitsWrongFalsely : Prop := startPursuitsRow.holds Tryz.pinned (OpenSpec.ofChange startPursuitsWrong)

/-- 'klisterlaw02.StartDeficits': WHATEVER THE INPUT: true; the input reads as it did. -/
def startDeficitsSpec : ChangeSpec := { name := "startDeficits", fn := fun _ => fun
  | [d1, d2, d3, d4] => { results := [.lit (.bool true)], args := [d1, d2, d3, d4] }
  | _ => none }
def startDeficitsRow : OpenClaim := { program := "ytfdnbaahdjlapaagreat", sum := "5a1de15cbbeeed0b0d00e98b52faa0cedb08400aed5f76c86f2a8aa9a1ee13e0", func := "klister/klisterlaw02.StartDeficits", spec := "startDeficits", unfollowed := true, recurses := true, apart := false }
def StartDeficitsSaid : Prop := startDeficitsRow.holds Tryz.pinned (OpenSpec.ofChange startDeficitsSpec)

/-- ITS FALSE NEIGHBOUR: 'it returns false'. Refute it at one input. -/
def startDeficitsWrong : ChangeSpec := { name := "startDeficits", fn := fun _ => fun
  | [d1, d2, d3, d4] => { results := [.lit (.bool false)], args := [d1, d2, d3, d4] }
  | _ => none }
def StartDeficitsWrongFalsely : Prop := startDeficitsRow.holds Tryz.pinned (OpenSpec.ofChange startDeficitsWrong)

/- THE SECOND FORM. 'bulk': how many values and letters a reading holds, each counted each time it is reached (what is shared counts as often as it is met; a slice's spare places count too). A statement '..UptoSaid' is the law's where the arguments, and the package variables that the reading takes, are together of bulk at most 1048576: NARROWER than '..Said'. Prove '..Said' where nothing that the law and all that it calls make is longer than what came in: it says more and counts as full. Else prove '..UptoSaid'. A law counts once. -/
mutual
def uptoBulk {H : Type} : DataW H → Nat
  | .lit (.string bytes) => bytes.length + 1
  | .lit _ => 1
  | .nil => 1
  | .ptr d => uptoBulk d + 1
  | .slice elems spare => uptoBulkAll elems + uptoBulkAll spare + 1
  | .agg parts => uptoBulkAll parts + 1
  | .iface _ d => uptoBulk d + 1
  | .map entries => uptoBulkEntries entries + 1
  | .held _ => 1
def uptoBulkAll {H : Type} : List (DataW H) → Nat
  | [] => 0
  | d :: r => uptoBulk d + uptoBulkAll r
def uptoBulkEntries {H : Type} : List (Lit × DataW H) → Nat
  | [] => 0
  | x :: r => uptoBulkEntry x + uptoBulkEntries r
def uptoBulkEntry {H : Type} : Lit × DataW H → Nat
  | (.string bytes, d) => bytes.length + uptoBulk d + 1
  | (_, d) => uptoBulk d + 1
 end
def uptoSmall : (H : Type) → List (DataW H) → Bool := fun _ ds => decide (uptoBulkAll ds ≤ 1048576)
def OpenSpec.upto (s : _root_.Go.ChangeSpec) : _root_.Go.OpenSpec := { _root_.Go.OpenSpec.ofChange s with cond := some uptoSmall }

/-- 'klisterlaw08.RelayShots', WHERE WHAT IT READS IS OF BULK AT MOST 1048576: true; the input reads as it did. -/
def relayShotsUptoRow : OpenClaim := { program := "ytfdnbaahdjlapaagreat", sum := "5a1de15cbbeeed0b0d00e98b52faa0cedb08400aed5f76c86f2a8aa9a1ee13e0", func := "klister/klisterlaw08.RelayShots", spec := "relayShots", unfollowed := true, recurses := true, apart := false, narrowed := true }
def RelayShotsUptoSaid : Prop := relayShotsUptoRow.holds Tryz.pinned (OpenSpec.upto relayShotsSpec)

/-- 'klisterlaw08.RelayChances', WHERE WHAT IT READS IS OF BULK AT MOST 1048576: true; the input reads as it did. -/
def relayChancesUptoRow : OpenClaim := { program := "ytfdnbaahdjlapaagreat", sum := "5a1de15cbbeeed0b0d00e98b52faa0cedb08400aed5f76c86f2a8aa9a1ee13e0", func := "klister/klisterlaw08.RelayChances", spec := "relayChances", unfollowed := true, recurses := true, apart := false, narrowed := true }
def RelayChancesUptoSaid : Prop := relayChancesUptoRow.holds Tryz.pinned (OpenSpec.upto relayChancesSpec)

/-- 'klisterlaw08.RelayChanced', WHERE WHAT IT READS IS OF BULK AT MOST 1048576: true; the input reads as it did. -/
def relayChancedUptoRow : OpenClaim := { program := "ytfdnbaahdjlapaagreat", sum := "5a1de15cbbeeed0b0d00e98b52faa0cedb08400aed5f76c86f2a8aa9a1ee13e0", func := "klister/klisterlaw08.RelayChanced", spec := "relayChanced", unfollowed := true, recurses := true, apart := false, narrowed := true }
def RelayChancedUptoSaid : Prop := relayChancedUptoRow.holds Tryz.pinned (OpenSpec.upto relayChancedSpec)

/-- 'klisterlaw02.StartPursuits', WHERE WHAT IT READS IS OF BULK AT MOST 1048576: true; the input reads as it did. -/
def startPursuitsUptoRow : OpenClaim := { program := "ytfdnbaahdjlapaagreat", sum := "5a1de15cbbeeed0b0d00e98b52faa0cedb08400aed5f76c86f2a8aa9a1ee13e0", func := "klister/klisterlaw02.StartPursuits", spec := "startPursuits", unfollowed := true, recurses := true, apart := false, narrowed := true }
def StartPursuitsUptoSaid : Prop := startPursuitsUptoRow.holds Tryz.pinned (OpenSpec.upto startPursuitsSpec)

/-- 'klisterlaw02.StartDeficits', WHERE WHAT IT READS IS OF BULK AT MOST 1048576: true; the input reads as it did. -/
def startDeficitsUptoRow : OpenClaim := { program := "ytfdnbaahdjlapaagreat", sum := "5a1de15cbbeeed0b0d00e98b52faa0cedb08400aed5f76c86f2a8aa9a1ee13e0", func := "klister/klisterlaw02.StartDeficits", spec := "startDeficits", unfollowed := true, recurses := true, apart := false, narrowed := true }
def StartDeficitsUptoSaid : Prop := startDeficitsUptoRow.holds Tryz.pinned (OpenSpec.upto startDeficitsSpec)

end Rows
end Go.Proofs.YtfdnbaahdjlapaaGreat
