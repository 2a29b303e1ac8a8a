/-
  No cell of these rows narrows 'for every input' (looked for: loops, veiled, ifaces, maps, wideKeys, modest, calm, conditions, laid).
  DERIVED. THE GIVEN ROWS OF THIS SEAT. 8 by the template 'for every input the law returns true; each argument reads behind the call as it read before'; 0 by the template 'total and deterministic' (their statements: YtglpalgiipahjaaGreatTotals.lean).
  GIVEN WITH THE SEED: the statements are not yours to turn. If you find one false, say at which input.
  Laid BY PROGRAM, IN A SANDBOX (cutbox-rows.mjs): the forced cells as the released guide's own fill.sh prints them over the translation e59a527ca8faf146… (all of the seat's roots in one cut). By AI agents, Wed Nov 11 2026. No macro, syntax, notation, axiom, sorry.
-/
import Derived.Test.YtglpalgiipahjaaGreatChecked
import GoSem.Claim
import GoSem.ClaimJoined
import GoSem.ClaimMapViews
import Derived.JoinedTies
import Derived.KernelRfl
namespace Go.Proofs.YtglpalgiipahjaaGreat
/- THE CELL 'sum', in the pinned program and in every row, IS THE sha256 OF THE DUMP (.gsa) THAT YtglpalgiipahjaaGreatProg.lean LOADS. Nothing in Lean hashes anything: it is a label: what it is worth is what the hold of that sum in a sandbox is worth. -/
noncomputable def Tryz.pinned : Pinned := { name := "ytglpalgiipahjaagreat", sum := "e59a527ca8faf1463d1e00b91bb107a1d0f1eeb529246b1f508e575af073931e", checked := Tryz.checked }
namespace Rows
def none {H : Type} : Left H := { results := [], args := [] }

/-- 'klisterlaw08.RelayResults': WHATEVER THE INPUT: true; the input reads as it did. -/
def relayResultsSpec : ChangeSpec := { name := "relayResults", fn := fun _ => fun
  | [d] => { results := [.lit (.bool true)], args := [d] }
  | _ => none }
def relayResultsRow : OpenClaim := { program := "ytglpalgiipahjaagreat", sum := "e59a527ca8faf1463d1e00b91bb107a1d0f1eeb529246b1f508e575af073931e", func := "klister/klisterlaw08.RelayResults", spec := "relayResults", unfollowed := true, recurses := true, plainKeys := false, apart := false }
def RelayResultsSaid : Prop := relayResultsRow.holds Tryz.pinned (OpenSpec.ofChange relayResultsSpec)

/-- ITS FALSE NEIGHBOUR: 'it returns false'. Refute it at one input. -/
def relayResultsWrong : ChangeSpec := { name := "relayResults", fn := fun _ => fun
  | [d] => { results := [.lit (.bool false)], args := [d] }
  | _ => none }
def RelayResultsWrongFalsely : Prop := relayResultsRow.holds Tryz.pinned (OpenSpec.ofChange relayResultsWrong)

/-- 'klisterlaw08.RelayHit': WHATEVER THE INPUT: true; the input reads as it did. -/
def relayHitSpec : ChangeSpec := { name := "relayHit", fn := fun _ => fun
  | [d1, d2, d3] => { results := [.lit (.bool true)], args := [d1, d2, d3] }
  | _ => none }
def relayHitRow : OpenClaim := { program := "ytglpalgiipahjaagreat", sum := "e59a527ca8faf1463d1e00b91bb107a1d0f1eeb529246b1f508e575af073931e", func := "klister/klisterlaw08.RelayHit", spec := "relayHit", unfollowed := true, recurses := true, plainKeys := false, apart := false }
def RelayHitSaid : Prop := relayHitRow.holds Tryz.pinned (OpenSpec.ofChange relayHitSpec)

/-- ITS FALSE NEIGHBOUR: 'it returns false'. Refute it at one input. -/
def relayHitWrong : ChangeSpec := { name := "relayHit", fn := fun _ => fun
  | [d1, d2, d3] => { results := [.lit (.bool false)], args := [d1, d2, d3] }
  | _ => none }
def RelayHitWrongFalsely : Prop := relayHitRow.holds Tryz.pinned (OpenSpec.ofChange relayHitWrong)

/-- 'klisterlaw08.RelayLoss': WHATEVER THE INPUT: true; the input reads as it did. -/
def relayLossSpec : ChangeSpec := { name := "relayLoss", fn := fun _ => fun
  | [d1, d2, d3] => { results := [.lit (.bool true)], args := [d1, d2, d3] }
  | _ => none }
def relayLossRow : OpenClaim := { program := "ytglpalgiipahjaagreat", sum := "e59a527ca8faf1463d1e00b91bb107a1d0f1eeb529246b1f508e575af073931e", func := "klister/klisterlaw08.RelayLoss", spec := "relayLoss", unfollowed := true, recurses := true, plainKeys := false, apart := false }
def RelayLossSaid : Prop := relayLossRow.holds Tryz.pinned (OpenSpec.ofChange relayLossSpec)

/-- ITS FALSE NEIGHBOUR: 'it returns false'. Refute it at one input. -/
def relayLossWrong : ChangeSpec := { name := "relayLoss", fn := fun _ => fun
  | [d1, d2, d3] => { results := [.lit (.bool false)], args := [d1, d2, d3] }
  | _ => none }
def RelayLossWrongFalsely : Prop := relayLossRow.holds Tryz.pinned (OpenSpec.ofChange relayLossWrong)

/-- 'klisterlaw08.RelayRanked': WHATEVER THE INPUT: true; the input reads as it did. -/
def relayRankedSpec : ChangeSpec := { name := "relayRanked", fn := fun _ => fun
  | [d1, d2] => { results := [.lit (.bool true)], args := [d1, d2] }
  | _ => none }
def relayRankedRow : OpenClaim := { program := "ytglpalgiipahjaagreat", sum := "e59a527ca8faf1463d1e00b91bb107a1d0f1eeb529246b1f508e575af073931e", func := "klister/klisterlaw08.RelayRanked", spec := "relayRanked", unfollowed := true, recurses := true, plainKeys := false, apart := false }
def RelayRankedSaid : Prop := relayRankedRow.holds Tryz.pinned (OpenSpec.ofChange relayRankedSpec)

/-- ITS FALSE NEIGHBOUR: 'it returns false'. Refute it at one input. -/
def relayRankedWrong : ChangeSpec := { name := "relayRanked", fn := fun _ => fun
  | [d1, d2] => { results := [.lit (.bool false)], args := [d1, d2] }
  | _ => none }
def RelayRankedWrongFalsely : Prop := relayRankedRow.holds Tryz.pinned (OpenSpec.ofChange relayRankedWrong)

/-- 'klisterlaw08.RelayLapped': WHATEVER THE INPUT: true; the input reads as it did. -/
def relayLappedSpec : ChangeSpec := { name := "relayLapped", fn := fun _ => fun
  | [d1, d2] => { results := [.lit (.bool true)], args := [d1, d2] }
  | _ => none }
def relayLappedRow : OpenClaim := { program := "ytglpalgiipahjaagreat", sum := "e59a527ca8faf1463d1e00b91bb107a1d0f1eeb529246b1f508e575af073931e", func := "klister/klisterlaw08.RelayLapped", spec := "relayLapped", unfollowed := true, recurses := true, plainKeys := false, apart := false }
def RelayLappedSaid : Prop := relayLappedRow.holds Tryz.pinned (OpenSpec.ofChange relayLappedSpec)

/-- ITS FALSE NEIGHBOUR: 'it returns false'. Refute it at one input. -/
def relayLappedWrong : ChangeSpec := { name := "relayLapped", fn := fun _ => fun
  | [d1, d2] => { results := [.lit (.bool false)], args := [d1, d2] }
  | _ => none }
def RelayLappedWrongFalsely : Prop := relayLappedRow.holds Tryz.pinned (OpenSpec.ofChange relayLappedWrong)

/-- 'klisterlaw08.RelayOrders': WHATEVER THE INPUT: true; the input reads as it did. -/
def relayOrdersSpec : ChangeSpec := { name := "relayOrders", fn := fun _ => fun
  | [d1, d2, d3, d4, d5, d6] => { results := [.lit (.bool true)], args := [d1, d2, d3, d4, d5, d6] }
  | _ => none }
def relayOrdersRow : OpenClaim := { program := "ytglpalgiipahjaagreat", sum := "e59a527ca8faf1463d1e00b91bb107a1d0f1eeb529246b1f508e575af073931e", func := "klister/klisterlaw08.RelayOrders", spec := "relayOrders", unfollowed := true, recurses := true, plainKeys := false, apart := false }
def RelayOrdersSaid : Prop := relayOrdersRow.holds Tryz.pinned (OpenSpec.ofChange relayOrdersSpec)

/-- ITS FALSE NEIGHBOUR: 'it returns false'. Refute it at one input. -/
def relayOrdersWrong : ChangeSpec := { name := "relayOrders", fn := fun _ => fun
  | [d1, d2, d3, d4, d5, d6] => { results := [.lit (.bool false)], args := [d1, d2, d3, d4, d5, d6] }
  | _ => none }
def RelayOrdersWrongFalsely : Prop := relayOrdersRow.holds Tryz.pinned (OpenSpec.ofChange relayOrdersWrong)

/-- 'klisterlaw03.TargetSlower': WHATEVER THE INPUT: true; the input reads as it did. -/
def targetSlowerSpec : ChangeSpec := { name := "targetSlower", fn := fun _ => fun
  | [d1, d2, d3] => { results := [.lit (.bool true)], args := [d1, d2, d3] }
  | _ => none }
def targetSlowerRow : OpenClaim := { program := "ytglpalgiipahjaagreat", sum := "e59a527ca8faf1463d1e00b91bb107a1d0f1eeb529246b1f508e575af073931e", func := "klister/klisterlaw03.TargetSlower", spec := "targetSlower", unfollowed := true, recurses := true, plainKeys := false, apart := false }
def TargetSlowerSaid : Prop := targetSlowerRow.holds Tryz.pinned (OpenSpec.ofChange targetSlowerSpec)

/-- ITS FALSE NEIGHBOUR: 'it returns false'. Refute it at one input. -/
def targetSlowerWrong : ChangeSpec := { name := "targetSlower", fn := fun _ => fun
  | [d1, d2, d3] => { results := [.lit (.bool false)], args := [d1, d2, d3] }
  | _ => none }
def TargetSlowerWrongFalsely : Prop := targetSlowerRow.holds Tryz.pinned (OpenSpec.ofChange targetSlowerWrong)

/-- 'klisterlaw02.StartNamed': WHATEVER THE INPUT: true; the input reads as it did. -/
def startNamedSpec : ChangeSpec := { name := "startNamed", fn := fun _ => fun
  | [d1, d2] => { results := [.lit (.bool true)], args := [d1, d2] }
  | _ => none }
def startNamedRow : OpenClaim := { program := "ytglpalgiipahjaagreat", sum := "e59a527ca8faf1463d1e00b91bb107a1d0f1eeb529246b1f508e575af073931e", func := "klister/klisterlaw02.StartNamed", spec := "startNamed", unfollowed := true, recurses := true, plainKeys := false, apart := false }
def StartNamedSaid : Prop := startNamedRow.holds Tryz.pinned (OpenSpec.ofChange startNamedSpec)

/-- ITS FALSE NEIGHBOUR: 'it returns false'. Refute it at one input. -/
def startNamedWrong : ChangeSpec := { name := "startNamed", fn := fun _ => fun
  | [d1, d2] => { results := [.lit (.bool false)], args := [d1, d2] }
  | _ => none }
def StartNamedWrongFalsely : Prop := startNamedRow.holds Tryz.pinned (OpenSpec.ofChange startNamedWrong)

/- THE SECOND FORM. 'bulk': how many values and letters a reading holds, each counted each time it is reached (what is shared counts as often as it is met; a slice's spare places count too). A statement '..UptoSaid' is the law's where the arguments, and the package variables that the reading takes, are together of bulk at most 1048576: NARROWER than '..Said'. Prove '..Said' where nothing that the law and all that it calls make is longer than what came in: it says more and counts as full. Else prove '..UptoSaid'. A law counts once. -/
mutual
def uptoBulk {H : Type} : DataW H → Nat
  | .lit (.string bytes) => bytes.length + 1
  | .lit _ => 1
  | .nil => 1
  | .ptr d => uptoBulk d + 1
  | .slice elems spare => uptoBulkAll elems + uptoBulkAll spare + 1
  | .agg parts => uptoBulkAll parts + 1
  | .iface _ d => uptoBulk d + 1
  | .map entries => uptoBulkEntries entries + 1
  | .held _ => 1
def uptoBulkAll {H : Type} : List (DataW H) → Nat
  | [] => 0
  | d :: r => uptoBulk d + uptoBulkAll r
def uptoBulkEntries {H : Type} : List (Lit × DataW H) → Nat
  | [] => 0
  | x :: r => uptoBulkEntry x + uptoBulkEntries r
def uptoBulkEntry {H : Type} : Lit × DataW H → Nat
  | (.string bytes, d) => bytes.length + uptoBulk d + 1
  | (_, d) => uptoBulk d + 1
 end
def uptoSmall : (H : Type) → List (DataW H) → Bool := fun _ ds => decide (uptoBulkAll ds ≤ 1048576)
def OpenSpec.upto (s : _root_.Go.ChangeSpec) : _root_.Go.OpenSpec := { _root_.Go.OpenSpec.ofChange s with cond := some uptoSmall }

/-- 'klisterlaw08.RelayResults', WHERE WHAT IT READS IS OF BULK AT MOST 1048576: true; the input reads as it did. -/
def relayResultsUptoRow : OpenClaim := { program := "ytglpalgiipahjaagreat", sum := "e59a527ca8faf1463d1e00b91bb107a1d0f1eeb529246b1f508e575af073931e", func := "klister/klisterlaw08.RelayResults", spec := "relayResults", unfollowed := true, recurses := true, plainKeys := false, apart := false, narrowed := true }
def RelayResultsUptoSaid : Prop := relayResultsUptoRow.holds Tryz.pinned (OpenSpec.upto relayResultsSpec)

/-- 'klisterlaw08.RelayHit', WHERE WHAT IT READS IS OF BULK AT MOST 1048576: true; the input reads as it did. -/
def relayHitUptoRow : OpenClaim := { program := "ytglpalgiipahjaagreat", sum := "e59a527ca8faf1463d1e00b91bb107a1d0f1eeb529246b1f508e575af073931e", func := "klister/klisterlaw08.RelayHit", spec := "relayHit", unfollowed := true, recurses := true, plainKeys := false, apart := false, narrowed := true }
def RelayHitUptoSaid : Prop := relayHitUptoRow.holds Tryz.pinned (OpenSpec.upto relayHitSpec)

/-- 'klisterlaw08.RelayLoss', WHERE WHAT IT READS IS OF BULK AT MOST 1048576: true; the input reads as it did. -/
def relayLossUptoRow : OpenClaim := { program := "ytglpalgiipahjaagreat", sum := "e59a527ca8faf1463d1e00b91bb107a1d0f1eeb529246b1f508e575af073931e", func := "klister/klisterlaw08.RelayLoss", spec := "relayLoss", unfollowed := true, recurses := true, plainKeys := false, apart := false, narrowed := true }
def RelayLossUptoSaid : Prop := relayLossUptoRow.holds Tryz.pinned (OpenSpec.upto relayLossSpec)

/-- 'klisterlaw08.RelayRanked', WHERE WHAT IT READS IS OF BULK AT MOST 1048576: true; the input reads as it did. -/
def relayRankedUptoRow : OpenClaim := { program := "ytglpalgiipahjaagreat", sum := "e59a527ca8faf1463d1e00b91bb107a1d0f1eeb529246b1f508e575af073931e", func := "klister/klisterlaw08.RelayRanked", spec := "relayRanked", unfollowed := true, recurses := true, plainKeys := false, apart := false, narrowed := true }
def RelayRankedUptoSaid : Prop := relayRankedUptoRow.holds Tryz.pinned (OpenSpec.upto relayRankedSpec)

/-- 'klisterlaw08.RelayLapped', WHERE WHAT IT READS IS OF BULK AT MOST 1048576: true; the input reads as it did. -/
def relayLappedUptoRow : OpenClaim := { program := "ytglpalgiipahjaagreat", sum := "e59a527ca8faf1463d1e00b91bb107a1d0f1eeb529246b1f508e575af073931e", func := "klister/klisterlaw08.RelayLapped", spec := "relayLapped", unfollowed := true, recurses := true, plainKeys := false, apart := false, narrowed := true }
def RelayLappedUptoSaid : Prop := relayLappedUptoRow.holds Tryz.pinned (OpenSpec.upto relayLappedSpec)

/-- 'klisterlaw08.RelayOrders', WHERE WHAT IT READS IS OF BULK AT MOST 1048576: true; the input reads as it did. -/
def relayOrdersUptoRow : OpenClaim := { program := "ytglpalgiipahjaagreat", sum := "e59a527ca8faf1463d1e00b91bb107a1d0f1eeb529246b1f508e575af073931e", func := "klister/klisterlaw08.RelayOrders", spec := "relayOrders", unfollowed := true, recurses := true, plainKeys := false, apart := false, narrowed := true }
def RelayOrdersUptoSaid : Prop := relayOrdersUptoRow.holds Tryz.pinned (OpenSpec.upto relayOrdersSpec)

/-- 'klisterlaw03.TargetSlower', WHERE WHAT IT READS IS OF BULK AT MOST 1048576: true; the input reads as it did. -/
def targetSlowerUptoRow : OpenClaim := { program := "ytglpalgiipahjaagreat", sum := "e59a527ca8faf1463d1e00b91bb107a1d0f1eeb529246b1f508e575af073931e", func := "klister/klisterlaw03.TargetSlower", spec := "targetSlower", unfollowed := true, recurses := true, plainKeys := false, apart := false, narrowed := true }
def TargetSlowerUptoSaid : Prop := targetSlowerUptoRow.holds Tryz.pinned (OpenSpec.upto targetSlowerSpec)

/-- 'klisterlaw02.StartNamed', WHERE WHAT IT READS IS OF BULK AT MOST 1048576: true; the input reads as it did. -/
def startNamedUptoRow : OpenClaim := { program := "ytglpalgiipahjaagreat", sum := "e59a527ca8faf1463d1e00b91bb107a1d0f1eeb529246b1f508e575af073931e", func := "klister/klisterlaw02.StartNamed", spec := "startNamed", unfollowed := true, recurses := true, plainKeys := false, apart := false, narrowed := true }
def StartNamedUptoSaid : Prop := startNamedUptoRow.holds Tryz.pinned (OpenSpec.upto startNamedSpec)

end Rows
end Go.Proofs.YtglpalgiipahjaaGreat
