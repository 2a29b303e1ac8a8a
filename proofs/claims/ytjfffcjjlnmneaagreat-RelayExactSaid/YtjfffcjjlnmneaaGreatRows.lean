/-
  No cell of these rows narrows 'for every input' (looked for: loops, veiled, ifaces, maps, wideKeys, modest, calm, conditions, laid).
  DERIVED. THE GIVEN ROWS OF THIS SEAT. 12 by the template 'for every input the law returns true; each argument reads behind the call as it read before'; 0 by the template 'total and deterministic' (their statements: YtjfffcjjlnmneaaGreatTotals.lean).
  GIVEN WITH THE SEED: the statements are not yours to turn. If you find one false, say at which input.
  Laid BY PROGRAM, IN A SANDBOX (cutbox-rows.mjs): the forced cells as the released guide's own fill.sh prints them over the translation a2898e8a02ceb0f8… (all of the seat's roots in one cut). By AI agents, Wed Nov 11 2026. No macro, syntax, notation, axiom, sorry.
-/
import Derived.Test.YtjfffcjjlnmneaaGreatChecked
import GoSem.Claim
import GoSem.ClaimJoined
import GoSem.ClaimMapViews
import Derived.JoinedTies
import Derived.KernelRfl
namespace Go.Proofs.YtjfffcjjlnmneaaGreat
/- THE CELL 'sum', in the pinned program and in every row, IS THE sha256 OF THE DUMP (.gsa) THAT YtjfffcjjlnmneaaGreatProg.lean LOADS. Nothing in Lean hashes anything: it is a label: what it is worth is what the hold of that sum in a sandbox is worth. -/
noncomputable def Tryz.pinned : Pinned := { name := "ytjfffcjjlnmneaagreat", sum := "a2898e8a02ceb0f8ad610acd8175ed6cf122ec3854e54d88c4cf5941397db310", checked := Tryz.checked }
namespace Rows
def none {H : Type} : Left H := { results := [], args := [] }

/-- 'klisterlaw08.RelayExact': WHATEVER THE INPUT: true; the input reads as it did. -/
def relayExactSpec : ChangeSpec := { name := "relayExact", fn := fun _ => fun
  | [d1, d2] => { results := [.lit (.bool true)], args := [d1, d2] }
  | _ => none }
def relayExactRow : OpenClaim := { program := "ytjfffcjjlnmneaagreat", sum := "a2898e8a02ceb0f8ad610acd8175ed6cf122ec3854e54d88c4cf5941397db310", func := "klister/klisterlaw08.RelayExact", spec := "relayExact", unfollowed := true, recurses := true, plainKeys := false, apart := false }
def RelayExactSaid : Prop := relayExactRow.holds Tryz.pinned (OpenSpec.ofChange relayExactSpec)

/-- ITS FALSE NEIGHBOUR: 'it returns false'. Refute it at one input. -/
def relayExactWrong : ChangeSpec := { name := "relayExact", fn := fun _ => fun
  | [d1, d2] => { results := [.lit (.bool false)], args := [d1, d2] }
  | _ => none }
def RelayExactWrongFalsely : Prop := relayExactRow.holds Tryz.pinned (OpenSpec.ofChange relayExactWrong)

/-- 'klisterlaw08.RelayTimes': WHATEVER THE INPUT: true; the input reads as it did. -/
def relayTimesSpec : ChangeSpec := { name := "relayTimes", fn := fun _ => fun
  | [d1, d2] => { results := [.lit (.bool true)], args := [d1, d2] }
  | _ => none }
def relayTimesRow : OpenClaim := { program := "ytjfffcjjlnmneaagreat", sum := "a2898e8a02ceb0f8ad610acd8175ed6cf122ec3854e54d88c4cf5941397db310", func := "klister/klisterlaw08.RelayTimes", spec := "relayTimes", unfollowed := true, recurses := true, plainKeys := false, apart := false }
def RelayTimesSaid : Prop := relayTimesRow.holds Tryz.pinned (OpenSpec.ofChange relayTimesSpec)

/-- ITS FALSE NEIGHBOUR: 'it returns false'. Refute it at one input. -/
def relayTimesWrong : ChangeSpec := { name := "relayTimes", fn := fun _ => fun
  | [d1, d2] => { results := [.lit (.bool false)], args := [d1, d2] }
  | _ => none }
def RelayTimesWrongFalsely : Prop := relayTimesRow.holds Tryz.pinned (OpenSpec.ofChange relayTimesWrong)

/-- 'klisterlaw08.RelayTargets': WHATEVER THE INPUT: true; the input reads as it did. -/
def relayTargetsSpec : ChangeSpec := { name := "relayTargets", fn := fun _ => fun
  | [d] => { results := [.lit (.bool true)], args := [d] }
  | _ => none }
def relayTargetsRow : OpenClaim := { program := "ytjfffcjjlnmneaagreat", sum := "a2898e8a02ceb0f8ad610acd8175ed6cf122ec3854e54d88c4cf5941397db310", func := "klister/klisterlaw08.RelayTargets", spec := "relayTargets", unfollowed := true, recurses := true, plainKeys := false, apart := false }
def RelayTargetsSaid : Prop := relayTargetsRow.holds Tryz.pinned (OpenSpec.ofChange relayTargetsSpec)

/-- ITS FALSE NEIGHBOUR: 'it returns false'. Refute it at one input. -/
def relayTargetsWrong : ChangeSpec := { name := "relayTargets", fn := fun _ => fun
  | [d] => { results := [.lit (.bool false)], args := [d] }
  | _ => none }
def RelayTargetsWrongFalsely : Prop := relayTargetsRow.holds Tryz.pinned (OpenSpec.ofChange relayTargetsWrong)

/-- 'klisterlaw08.RelayHit': WHATEVER THE INPUT: true; the input reads as it did. -/
def relayHitSpec : ChangeSpec := { name := "relayHit", fn := fun _ => fun
  | [d1, d2, d3] => { results := [.lit (.bool true)], args := [d1, d2, d3] }
  | _ => none }
def relayHitRow : OpenClaim := { program := "ytjfffcjjlnmneaagreat", sum := "a2898e8a02ceb0f8ad610acd8175ed6cf122ec3854e54d88c4cf5941397db310", func := "klister/klisterlaw08.RelayHit", spec := "relayHit", unfollowed := true, recurses := true, plainKeys := false, apart := false }
def RelayHitSaid : Prop := relayHitRow.holds Tryz.pinned (OpenSpec.ofChange relayHitSpec)

/-- ITS FALSE NEIGHBOUR: 'it returns false'. Refute it at one input. -/
def relayHitWrong : ChangeSpec := { name := "relayHit", fn := fun _ => fun
  | [d1, d2, d3] => { results := [.lit (.bool false)], args := [d1, d2, d3] }
  | _ => none }
def RelayHitWrongFalsely : Prop := relayHitRow.holds Tryz.pinned (OpenSpec.ofChange relayHitWrong)

/-- 'klisterlaw08.RelayResults': WHATEVER THE INPUT: true; the input reads as it did. -/
def relayResultsSpec : ChangeSpec := { name := "relayResults", fn := fun _ => fun
  | [d] => { results := [.lit (.bool true)], args := [d] }
  | _ => none }
def relayResultsRow : OpenClaim := { program := "ytjfffcjjlnmneaagreat", sum := "a2898e8a02ceb0f8ad610acd8175ed6cf122ec3854e54d88c4cf5941397db310", func := "klister/klisterlaw08.RelayResults", spec := "relayResults", unfollowed := true, recurses := true, plainKeys := false, apart := false }
def RelayResultsSaid : Prop := relayResultsRow.holds Tryz.pinned (OpenSpec.ofChange relayResultsSpec)

/-- ITS FALSE NEIGHBOUR: 'it returns false'. Refute it at one input. -/
def relayResultsWrong : ChangeSpec := { name := "relayResults", fn := fun _ => fun
  | [d] => { results := [.lit (.bool false)], args := [d] }
  | _ => none }
def RelayResultsWrongFalsely : Prop := relayResultsRow.holds Tryz.pinned (OpenSpec.ofChange relayResultsWrong)

/-- 'klisterlaw08.RelayRanked': WHATEVER THE INPUT: true; the input reads as it did. -/
def relayRankedSpec : ChangeSpec := { name := "relayRanked", fn := fun _ => fun
  | [d1, d2] => { results := [.lit (.bool true)], args := [d1, d2] }
  | _ => none }
def relayRankedRow : OpenClaim := { program := "ytjfffcjjlnmneaagreat", sum := "a2898e8a02ceb0f8ad610acd8175ed6cf122ec3854e54d88c4cf5941397db310", func := "klister/klisterlaw08.RelayRanked", spec := "relayRanked", unfollowed := true, recurses := true, plainKeys := false, apart := false }
def RelayRankedSaid : Prop := relayRankedRow.holds Tryz.pinned (OpenSpec.ofChange relayRankedSpec)

/-- ITS FALSE NEIGHBOUR: 'it returns false'. Refute it at one input. -/
def relayRankedWrong : ChangeSpec := { name := "relayRanked", fn := fun _ => fun
  | [d1, d2] => { results := [.lit (.bool false)], args := [d1, d2] }
  | _ => none }
def RelayRankedWrongFalsely : Prop := relayRankedRow.holds Tryz.pinned (OpenSpec.ofChange relayRankedWrong)

/-- 'klisterlaw08.RelayLapped': WHATEVER THE INPUT: true; the input reads as it did. -/
def relayLappedSpec : ChangeSpec := { name := "relayLapped", fn := fun _ => fun
  | [d1, d2] => { results := [.lit (.bool true)], args := [d1, d2] }
  | _ => none }
def relayLappedRow : OpenClaim := { program := "ytjfffcjjlnmneaagreat", sum := "a2898e8a02ceb0f8ad610acd8175ed6cf122ec3854e54d88c4cf5941397db310", func := "klister/klisterlaw08.RelayLapped", spec := "relayLapped", unfollowed := true, recurses := true, plainKeys := false, apart := false }
def RelayLappedSaid : Prop := relayLappedRow.holds Tryz.pinned (OpenSpec.ofChange relayLappedSpec)

/-- ITS FALSE NEIGHBOUR: 'it returns false'. Refute it at one input. -/
def relayLappedWrong : ChangeSpec := { name := "relayLapped", fn := fun _ => fun
  | [d1, d2] => { results := [.lit (.bool false)], args := [d1, d2] }
  | _ => none }
def RelayLappedWrongFalsely : Prop := relayLappedRow.holds Tryz.pinned (OpenSpec.ofChange relayLappedWrong)

/-- 'klisterlaw02.StartPursuits': WHATEVER THE INPUT: true; the input reads as it did. -/
def startPursuitsSpec : ChangeSpec := { name := "startPursuits", fn := fun _ => fun
  | [d1, d2] => { results := [.lit (.bool true)], args := [d1, d2] }
  | _ => none }
def startPursuitsRow : OpenClaim := { program := "ytjfffcjjlnmneaagreat", sum := "a2898e8a02ceb0f8ad610acd8175ed6cf122ec3854e54d88c4cf5941397db310", func := "klister/klisterlaw02.StartPursuits", spec := "startPursuits", unfollowed := true, recurses := true, plainKeys := false, apart := false }
def StartPursuitsSaid : Prop := startPursuitsRow.holds Tryz.pinned (OpenSpec.ofChange startPursuitsSpec)

/-- ITS FALSE NEIGHBOUR: 'it returns false'. Refute it at one input. -/
def startPursuitsWrong : ChangeSpec := { name := "startPursuits", fn := fun _ => fun
  | [d1, d2] => { results := [.lit (.bool false)], args := [d1, d2] }
  | _ => none }
def StartPursuitsWrongFalsely : Prop := startPursuitsRow.holds Tryz.pinned (OpenSpec.ofChange startPursuitsWrong)

/-- 'klisterlaw02.StartDeficits': WHATEVER THE INPUT: true; the input reads as it did. -/
def startDeficitsSpec : ChangeSpec := { name := "startDeficits", fn := fun _ => fun
  | [d1, d2, d3, d4] => { results := [.lit (.bool true)], args := [d1, d2, d3, d4] }
  | _ => none }
def startDeficitsRow : OpenClaim := { program := "ytjfffcjjlnmneaagreat", sum := "a2898e8a02ceb0f8ad610acd8175ed6cf122ec3854e54d88c4cf5941397db310", func := "klister/klisterlaw02.StartDeficits", spec := "startDeficits", unfollowed := true, recurses := true, plainKeys := false, apart := false }
def StartDeficitsSaid : Prop := startDeficitsRow.holds Tryz.pinned (OpenSpec.ofChange startDeficitsSpec)

/-- ITS FALSE NEIGHBOUR: 'it returns false'. Refute it at one input. -/
def startDeficitsWrong : ChangeSpec := { name := "startDeficits", fn := fun _ => fun
  | [d1, d2, d3, d4] => { results := [.lit (.bool false)], args := [d1, d2, d3, d4] }
  | _ => none }
def StartDeficitsWrongFalsely : Prop := startDeficitsRow.holds Tryz.pinned (OpenSpec.ofChange startDeficitsWrong)

/-- 'klisterlaw02.StartFields': WHATEVER THE INPUT: true; the input reads as it did. -/
def startFieldsSpec : ChangeSpec := { name := "startFields", fn := fun _ => fun
  | [d1, d2, d3] => { results := [.lit (.bool true)], args := [d1, d2, d3] }
  | _ => none }
def startFieldsRow : OpenClaim := { program := "ytjfffcjjlnmneaagreat", sum := "a2898e8a02ceb0f8ad610acd8175ed6cf122ec3854e54d88c4cf5941397db310", func := "klister/klisterlaw02.StartFields", spec := "startFields", unfollowed := true, recurses := true, plainKeys := false, apart := false }
def StartFieldsSaid : Prop := startFieldsRow.holds Tryz.pinned (OpenSpec.ofChange startFieldsSpec)

/-- ITS FALSE NEIGHBOUR: 'it returns false'. Refute it at one input. -/
def startFieldsWrong : ChangeSpec := { name := "startFields", fn := fun _ => fun
  | [d1, d2, d3] => { results := [.lit (.bool false)], args := [d1, d2, d3] }
  | _ => none }
def StartFieldsWrongFalsely : Prop := startFieldsRow.holds Tryz.pinned (OpenSpec.ofChange startFieldsWrong)

/-- 'klisterlaw02.StartBoxed': WHATEVER THE INPUT: true; the input reads as it did. -/
def startBoxedSpec : ChangeSpec := { name := "startBoxed", fn := fun _ => fun
  | [d1, d2] => { results := [.lit (.bool true)], args := [d1, d2] }
  | _ => none }
def startBoxedRow : OpenClaim := { program := "ytjfffcjjlnmneaagreat", sum := "a2898e8a02ceb0f8ad610acd8175ed6cf122ec3854e54d88c4cf5941397db310", func := "klister/klisterlaw02.StartBoxed", spec := "startBoxed", unfollowed := true, recurses := true, plainKeys := false, apart := false }
def StartBoxedSaid : Prop := startBoxedRow.holds Tryz.pinned (OpenSpec.ofChange startBoxedSpec)

/-- ITS FALSE NEIGHBOUR: 'it returns false'. Refute it at one input. -/
def startBoxedWrong : ChangeSpec := { name := "startBoxed", fn := fun _ => fun
  | [d1, d2] => { results := [.lit (.bool false)], args := [d1, d2] }
  | _ => none }
def StartBoxedWrongFalsely : Prop := startBoxedRow.holds Tryz.pinned (OpenSpec.ofChange startBoxedWrong)

/-- 'klisterlaw02.StartLists': WHATEVER THE INPUT: true; the input reads as it did. -/
def startListsSpec : ChangeSpec := { name := "startLists", fn := fun _ => fun
  | [d1, d2, d3, d4, d5] => { results := [.lit (.bool true)], args := [d1, d2, d3, d4, d5] }
  | _ => none }
def startListsRow : OpenClaim := { program := "ytjfffcjjlnmneaagreat", sum := "a2898e8a02ceb0f8ad610acd8175ed6cf122ec3854e54d88c4cf5941397db310", func := "klister/klisterlaw02.StartLists", spec := "startLists", inPlace := ["slices.overlaps[klister/start.Start]"], unfollowed := true, recurses := true, plainKeys := false, apart := false }
def StartListsSaid : Prop := startListsRow.holds Tryz.pinned (OpenSpec.ofChange startListsSpec)

/-- ITS FALSE NEIGHBOUR: 'it returns false'. Refute it at one input. -/
def startListsWrong : ChangeSpec := { name := "startLists", fn := fun _ => fun
  | [d1, d2, d3, d4, d5] => { results := [.lit (.bool false)], args := [d1, d2, d3, d4, d5] }
  | _ => none }
def StartListsWrongFalsely : Prop := startListsRow.holds Tryz.pinned (OpenSpec.ofChange startListsWrong)

/- THE SECOND FORM. 'bulk': how many values and letters a reading holds, each counted each time it is reached (what is shared counts as often as it is met; a slice's spare places count too). A statement '..UptoSaid' is the law's where the arguments, and the package variables that the reading takes, are together of bulk at most 1048576: NARROWER than '..Said'. Prove '..Said' where nothing that the law and all that it calls make is longer than what came in: it says more and counts as full. Else prove '..UptoSaid'. A law counts once. -/
mutual
def uptoBulk {H : Type} : DataW H → Nat
  | .lit (.string bytes) => bytes.length + 1
  | .lit _ => 1
  | .nil => 1
  | .ptr d => uptoBulk d + 1
  | .slice elems spare => uptoBulkAll elems + uptoBulkAll spare + 1
  | .agg parts => uptoBulkAll parts + 1
  | .iface _ d => uptoBulk d + 1
  | .map entries => uptoBulkEntries entries + 1
  | .held _ => 1
def uptoBulkAll {H : Type} : List (DataW H) → Nat
  | [] => 0
  | d :: r => uptoBulk d + uptoBulkAll r
def uptoBulkEntries {H : Type} : List (Lit × DataW H) → Nat
  | [] => 0
  | x :: r => uptoBulkEntry x + uptoBulkEntries r
def uptoBulkEntry {H : Type} : Lit × DataW H → Nat
  | (.string bytes, d) => bytes.length + uptoBulk d + 1
  | (_, d) => uptoBulk d + 1
 end
def uptoSmall : (H : Type) → List (DataW H) → Bool := fun _ ds => decide (uptoBulkAll ds ≤ 1048576)
def OpenSpec.upto (s : _root_.Go.ChangeSpec) : _root_.Go.OpenSpec := { _root_.Go.OpenSpec.ofChange s with cond := some uptoSmall }

/-- 'klisterlaw08.RelayExact', WHERE WHAT IT READS IS OF BULK AT MOST 1048576: true; the input reads as it did. -/
def relayExactUptoRow : OpenClaim := { program := "ytjfffcjjlnmneaagreat", sum := "a2898e8a02ceb0f8ad610acd8175ed6cf122ec3854e54d88c4cf5941397db310", func := "klister/klisterlaw08.RelayExact", spec := "relayExact", unfollowed := true, recurses := true, plainKeys := false, apart := false, narrowed := true }
def RelayExactUptoSaid : Prop := relayExactUptoRow.holds Tryz.pinned (OpenSpec.upto relayExactSpec)

/-- 'klisterlaw08.RelayTimes', WHERE WHAT IT READS IS OF BULK AT MOST 1048576: true; the input reads as it did. -/
def relayTimesUptoRow : OpenClaim := { program := "ytjfffcjjlnmneaagreat", sum := "a2898e8a02ceb0f8ad610acd8175ed6cf122ec3854e54d88c4cf5941397db310", func := "klister/klisterlaw08.RelayTimes", spec := "relayTimes", unfollowed := true, recurses := true, plainKeys := false, apart := false, narrowed := true }
def RelayTimesUptoSaid : Prop := relayTimesUptoRow.holds Tryz.pinned (OpenSpec.upto relayTimesSpec)

/-- 'klisterlaw08.RelayTargets', WHERE WHAT IT READS IS OF BULK AT MOST 1048576: true; the input reads as it did. -/
def relayTargetsUptoRow : OpenClaim := { program := "ytjfffcjjlnmneaagreat", sum := "a2898e8a02ceb0f8ad610acd8175ed6cf122ec3854e54d88c4cf5941397db310", func := "klister/klisterlaw08.RelayTargets", spec := "relayTargets", unfollowed := true, recurses := true, plainKeys := false, apart := false, narrowed := true }
def RelayTargetsUptoSaid : Prop := relayTargetsUptoRow.holds Tryz.pinned (OpenSpec.upto relayTargetsSpec)

/-- 'klisterlaw08.RelayHit', WHERE WHAT IT READS IS OF BULK AT MOST 1048576: true; the input reads as it did. -/
def relayHitUptoRow : OpenClaim := { program := "ytjfffcjjlnmneaagreat", sum := "a2898e8a02ceb0f8ad610acd8175ed6cf122ec3854e54d88c4cf5941397db310", func := "klister/klisterlaw08.RelayHit", spec := "relayHit", unfollowed := true, recurses := true, plainKeys := false, apart := false, narrowed := true }
def RelayHitUptoSaid : Prop := relayHitUptoRow.holds Tryz.pinned (OpenSpec.upto relayHitSpec)

/-- 'klisterlaw08.RelayResults', WHERE WHAT IT READS IS OF BULK AT MOST 1048576: true; the input reads as it did. -/
def relayResultsUptoRow : OpenClaim := { program := "ytjfffcjjlnmneaagreat", sum := "a2898e8a02ceb0f8ad610acd8175ed6cf122ec3854e54d88c4cf5941397db310", func := "klister/klisterlaw08.RelayResults", spec := "relayResults", unfollowed := true, recurses := true, plainKeys := false, apart := false, narrowed := true }
def RelayResultsUptoSaid : Prop := relayResultsUptoRow.holds Tryz.pinned (OpenSpec.upto relayResultsSpec)

/-- 'klisterlaw08.RelayRanked', WHERE WHAT IT READS IS OF BULK AT MOST 1048576: true; the input reads as it did. -/
def relayRankedUptoRow : OpenClaim := { program := "ytjfffcjjlnmneaagreat", sum := "a2898e8a02ceb0f8ad610acd8175ed6cf122ec3854e54d88c4cf5941397db310", func := "klister/klisterlaw08.RelayRanked", spec := "relayRanked", unfollowed := true, recurses := true, plainKeys := false, apart := false, narrowed := true }
def RelayRankedUptoSaid : Prop := relayRankedUptoRow.holds Tryz.pinned (OpenSpec.upto relayRankedSpec)

/-- 'klisterlaw08.RelayLapped', WHERE WHAT IT READS IS OF BULK AT MOST 1048576: true; the input reads as it did. -/
def relayLappedUptoRow : OpenClaim := { program := "ytjfffcjjlnmneaagreat", sum := "a2898e8a02ceb0f8ad610acd8175ed6cf122ec3854e54d88c4cf5941397db310", func := "klister/klisterlaw08.RelayLapped", spec := "relayLapped", unfollowed := true, recurses := true, plainKeys := false, apart := false, narrowed := true }
def RelayLappedUptoSaid : Prop := relayLappedUptoRow.holds Tryz.pinned (OpenSpec.upto relayLappedSpec)

/-- 'klisterlaw02.StartPursuits', WHERE WHAT IT READS IS OF BULK AT MOST 1048576: true; the input reads as it did. -/
def startPursuitsUptoRow : OpenClaim := { program := "ytjfffcjjlnmneaagreat", sum := "a2898e8a02ceb0f8ad610acd8175ed6cf122ec3854e54d88c4cf5941397db310", func := "klister/klisterlaw02.StartPursuits", spec := "startPursuits", unfollowed := true, recurses := true, plainKeys := false, apart := false, narrowed := true }
def StartPursuitsUptoSaid : Prop := startPursuitsUptoRow.holds Tryz.pinned (OpenSpec.upto startPursuitsSpec)

/-- 'klisterlaw02.StartDeficits', WHERE WHAT IT READS IS OF BULK AT MOST 1048576: true; the input reads as it did. -/
def startDeficitsUptoRow : OpenClaim := { program := "ytjfffcjjlnmneaagreat", sum := "a2898e8a02ceb0f8ad610acd8175ed6cf122ec3854e54d88c4cf5941397db310", func := "klister/klisterlaw02.StartDeficits", spec := "startDeficits", unfollowed := true, recurses := true, plainKeys := false, apart := false, narrowed := true }
def StartDeficitsUptoSaid : Prop := startDeficitsUptoRow.holds Tryz.pinned (OpenSpec.upto startDeficitsSpec)

/-- 'klisterlaw02.StartFields', WHERE WHAT IT READS IS OF BULK AT MOST 1048576: true; the input reads as it did. -/
def startFieldsUptoRow : OpenClaim := { program := "ytjfffcjjlnmneaagreat", sum := "a2898e8a02ceb0f8ad610acd8175ed6cf122ec3854e54d88c4cf5941397db310", func := "klister/klisterlaw02.StartFields", spec := "startFields", unfollowed := true, recurses := true, plainKeys := false, apart := false, narrowed := true }
def StartFieldsUptoSaid : Prop := startFieldsUptoRow.holds Tryz.pinned (OpenSpec.upto startFieldsSpec)

/-- 'klisterlaw02.StartBoxed', WHERE WHAT IT READS IS OF BULK AT MOST 1048576: true; the input reads as it did. -/
def startBoxedUptoRow : OpenClaim := { program := "ytjfffcjjlnmneaagreat", sum := "a2898e8a02ceb0f8ad610acd8175ed6cf122ec3854e54d88c4cf5941397db310", func := "klister/klisterlaw02.StartBoxed", spec := "startBoxed", unfollowed := true, recurses := true, plainKeys := false, apart := false, narrowed := true }
def StartBoxedUptoSaid : Prop := startBoxedUptoRow.holds Tryz.pinned (OpenSpec.upto startBoxedSpec)

/-- 'klisterlaw02.StartLists', WHERE WHAT IT READS IS OF BULK AT MOST 1048576: true; the input reads as it did. -/
def startListsUptoRow : OpenClaim := { program := "ytjfffcjjlnmneaagreat", sum := "a2898e8a02ceb0f8ad610acd8175ed6cf122ec3854e54d88c4cf5941397db310", func := "klister/klisterlaw02.StartLists", spec := "startLists", inPlace := ["slices.overlaps[klister/start.Start]"], unfollowed := true, recurses := true, plainKeys := false, apart := false, narrowed := true }
def StartListsUptoSaid : Prop := startListsUptoRow.holds Tryz.pinned (OpenSpec.upto startListsSpec)

end Rows
end Go.Proofs.YtjfffcjjlnmneaaGreat
