/-
  No cell of these rows narrows 'for every input' (looked for: loops, veiled, ifaces, maps, wideKeys, modest, calm, conditions, laid).
  DERIVED. THE GIVEN ROWS OF THIS SEAT. 6 by the template 'for every input the law returns true; each argument reads behind the call as it read before'; 0 by the template 'total and deterministic' (their statements: YthbficbpebiekaaGreatTotals.lean).
  GIVEN WITH THE SEED: the statements are not yours to turn. If you find one false, say at which input.
  Laid BY PROGRAM, IN A SANDBOX (cutbox-rows.mjs): the forced cells as the released guide's own fill.sh prints them over the translation 9f53afad48cf9d91… (all of the seat's roots in one cut). By AI agents, Wed Nov 11 2026. No macro, syntax, notation, axiom, sorry.
-/
import Derived.Test.YthbficbpebiekaaGreatChecked
import GoSem.Claim
import GoSem.ClaimJoined
import GoSem.ClaimMapViews
import Derived.JoinedTies
import Derived.KernelRfl
namespace Go.Proofs.YthbficbpebiekaaGreat
/- THE CELL 'sum', in the pinned program and in every row, IS THE sha256 OF THE DUMP (.gsa) THAT YthbficbpebiekaaGreatProg.lean LOADS. Nothing in Lean hashes anything: it is a label: what it is worth is what the hold of that sum in a sandbox is worth. -/
noncomputable def Tryz.pinned : Pinned := { name := "ythbficbpebiekaagreat", sum := "9f53afad48cf9d911685f8c93e689dd9c3d845f3db8f49be9ce54f22772b3f42", checked := Tryz.checked }
namespace Rows
def none {H : Type} : Left H := { results := [], args := [] }

/-- 'klisterlaw08.RelayTimes': WHATEVER THE INPUT: true; the input reads as it did. -/
def relayTimesSpec : ChangeSpec := { name := "relayTimes", fn := fun _ => fun
  | [d1, d2] => { results := [.lit (.bool true)], args := [d1, d2] }
  | _ => none }
def relayTimesRow : OpenClaim := { program := "ythbficbpebiekaagreat", sum := "9f53afad48cf9d911685f8c93e689dd9c3d845f3db8f49be9ce54f22772b3f42", func := "klister/klisterlaw08.RelayTimes", spec := "relayTimes", unfollowed := true, recurses := true, plainKeys := false, apart := false }
def RelayTimesSaid : Prop := relayTimesRow.holds Tryz.pinned (OpenSpec.ofChange relayTimesSpec)

/-- ITS FALSE NEIGHBOUR: 'it returns false'. Refute it at one input. -/
def relayTimesWrong : ChangeSpec := { name := "relayTimes", fn := fun _ => fun
  | [d1, d2] => { results := [.lit (.bool false)], args := [d1, d2] }
  | _ => none }
def RelayTimesWrongFalsely : Prop := relayTimesRow.holds Tryz.pinned (OpenSpec.ofChange relayTimesWrong)

/-- 'klisterlaw03.TargetFallen': WHATEVER THE INPUT: true; the input reads as it did. -/
def targetFallenSpec : ChangeSpec := { name := "targetFallen", fn := fun _ => fun
  | [d1, d2] => { results := [.lit (.bool true)], args := [d1, d2] }
  | _ => none }
def targetFallenRow : OpenClaim := { program := "ythbficbpebiekaagreat", sum := "9f53afad48cf9d911685f8c93e689dd9c3d845f3db8f49be9ce54f22772b3f42", func := "klister/klisterlaw03.TargetFallen", spec := "targetFallen", unfollowed := true, recurses := true, plainKeys := false, apart := false }
def TargetFallenSaid : Prop := targetFallenRow.holds Tryz.pinned (OpenSpec.ofChange targetFallenSpec)

/-- ITS FALSE NEIGHBOUR: 'it returns false'. Refute it at one input. -/
def targetFallenWrong : ChangeSpec := { name := "targetFallen", fn := fun _ => fun
  | [d1, d2] => { results := [.lit (.bool false)], args := [d1, d2] }
  | _ => none }
def TargetFallenWrongFalsely : Prop := targetFallenRow.holds Tryz.pinned (OpenSpec.ofChange targetFallenWrong)

/-- 'klisterlaw02.StartBoxed': WHATEVER THE INPUT: true; the input reads as it did. -/
def startBoxedSpec : ChangeSpec := { name := "startBoxed", fn := fun _ => fun
  | [d1, d2] => { results := [.lit (.bool true)], args := [d1, d2] }
  | _ => none }
def startBoxedRow : OpenClaim := { program := "ythbficbpebiekaagreat", sum := "9f53afad48cf9d911685f8c93e689dd9c3d845f3db8f49be9ce54f22772b3f42", func := "klister/klisterlaw02.StartBoxed", spec := "startBoxed", unfollowed := true, recurses := true, plainKeys := false, apart := false }
def StartBoxedSaid : Prop := startBoxedRow.holds Tryz.pinned (OpenSpec.ofChange startBoxedSpec)

/-- ITS FALSE NEIGHBOUR: 'it returns false'. Refute it at one input. -/
def startBoxedWrong : ChangeSpec := { name := "startBoxed", fn := fun _ => fun
  | [d1, d2] => { results := [.lit (.bool false)], args := [d1, d2] }
  | _ => none }
def StartBoxedWrongFalsely : Prop := startBoxedRow.holds Tryz.pinned (OpenSpec.ofChange startBoxedWrong)

/-- 'klisterlaw02.StartGated': WHATEVER THE INPUT: true; the input reads as it did. -/
def startGatedSpec : ChangeSpec := { name := "startGated", fn := fun _ => fun
  | [d1, d2, d3] => { results := [.lit (.bool true)], args := [d1, d2, d3] }
  | _ => none }
def startGatedRow : OpenClaim := { program := "ythbficbpebiekaagreat", sum := "9f53afad48cf9d911685f8c93e689dd9c3d845f3db8f49be9ce54f22772b3f42", func := "klister/klisterlaw02.StartGated", spec := "startGated", unfollowed := true, recurses := true, plainKeys := false, apart := false }
def StartGatedSaid : Prop := startGatedRow.holds Tryz.pinned (OpenSpec.ofChange startGatedSpec)

/-- ITS FALSE NEIGHBOUR: 'it returns false'. Refute it at one input. -/
def startGatedWrong : ChangeSpec := { name := "startGated", fn := fun _ => fun
  | [d1, d2, d3] => { results := [.lit (.bool false)], args := [d1, d2, d3] }
  | _ => none }
def StartGatedWrongFalsely : Prop := startGatedRow.holds Tryz.pinned (OpenSpec.ofChange startGatedWrong)

/-- 'klisterlaw02.StartGates': WHATEVER THE INPUT: true; the input reads as it did. -/
def startGatesSpec : ChangeSpec := { name := "startGates", fn := fun _ => fun
  | [d1, d2, d3] => { results := [.lit (.bool true)], args := [d1, d2, d3] }
  | _ => none }
def startGatesRow : OpenClaim := { program := "ythbficbpebiekaagreat", sum := "9f53afad48cf9d911685f8c93e689dd9c3d845f3db8f49be9ce54f22772b3f42", func := "klister/klisterlaw02.StartGates", spec := "startGates", unfollowed := true, recurses := true, plainKeys := false, apart := false }
def StartGatesSaid : Prop := startGatesRow.holds Tryz.pinned (OpenSpec.ofChange startGatesSpec)

/-- ITS FALSE NEIGHBOUR: 'it returns false'. Refute it at one input. -/
def startGatesWrong : ChangeSpec := { name := "startGates", fn := fun _ => fun
  | [d1, d2, d3] => { results := [.lit (.bool false)], args := [d1, d2, d3] }
  | _ => none }
def StartGatesWrongFalsely : Prop := startGatesRow.holds Tryz.pinned (OpenSpec.ofChange startGatesWrong)

/-- 'klisterlaw02.StartChanged': WHATEVER THE INPUT: true; the input reads as it did. -/
def startChangedSpec : ChangeSpec := { name := "startChanged", fn := fun _ => fun
  | [d1, d2, d3, d4] => { results := [.lit (.bool true)], args := [d1, d2, d3, d4] }
  | _ => none }
def startChangedRow : OpenClaim := { program := "ythbficbpebiekaagreat", sum := "9f53afad48cf9d911685f8c93e689dd9c3d845f3db8f49be9ce54f22772b3f42", func := "klister/klisterlaw02.StartChanged", spec := "startChanged", inPlace := ["slices.overlaps[klister/start.Start]"], unfollowed := true, recurses := true, plainKeys := false, apart := false }
def StartChangedSaid : Prop := startChangedRow.holds Tryz.pinned (OpenSpec.ofChange startChangedSpec)

/-- ITS FALSE NEIGHBOUR: 'it returns false'. Refute it at one input. -/
def startChangedWrong : ChangeSpec := { name := "startChanged", fn := fun _ => fun
  | [d1, d2, d3, d4] => { results := [.lit (.bool false)], args := [d1, d2, d3, d4] }
  | _ => none }
def StartChangedWrongFalsely : Prop := startChangedRow.holds Tryz.pinned (OpenSpec.ofChange startChangedWrong)

/- THE SECOND FORM. 'bulk': how many values and letters a reading holds, each counted each time it is reached (what is shared counts as often as it is met; a slice's spare places count too). A statement '..UptoSaid' is the law's where the arguments, and the package variables that the reading takes, are together of bulk at most 1048576: NARROWER than '..Said'. Prove '..Said' where nothing that the law and all that it calls make is longer than what came in: it says more and counts as full. Else prove '..UptoSaid'. A law counts once. -/
mutual
def uptoBulk {H : Type} : DataW H → Nat
  | .lit (.string bytes) => bytes.length + 1
  | .lit _ => 1
  | .nil => 1
  | .ptr d => uptoBulk d + 1
  | .slice elems spare => uptoBulkAll elems + uptoBulkAll spare + 1
  | .agg parts => uptoBulkAll parts + 1
  | .iface _ d => uptoBulk d + 1
  | .map entries => uptoBulkEntries entries + 1
  | .held _ => 1
def uptoBulkAll {H : Type} : List (DataW H) → Nat
  | [] => 0
  | d :: r => uptoBulk d + uptoBulkAll r
def uptoBulkEntries {H : Type} : List (Lit × DataW H) → Nat
  | [] => 0
  | x :: r => uptoBulkEntry x + uptoBulkEntries r
def uptoBulkEntry {H : Type} : Lit × DataW H → Nat
  | (.string bytes, d) => bytes.length + uptoBulk d + 1
  | (_, d) => uptoBulk d + 1
 end
def uptoSmall : (H : Type) → List (DataW H) → Bool := fun _ ds => decide (uptoBulkAll ds ≤ 1048576)
def OpenSpec.upto (s : _root_.Go.ChangeSpec) : _root_.Go.OpenSpec := { _root_.Go.OpenSpec.ofChange s with cond := some uptoSmall }

/-- 'klisterlaw08.RelayTimes', WHERE WHAT IT READS IS OF BULK AT MOST 1048576: true; the input reads as it did. -/
def relayTimesUptoRow : OpenClaim := { program := "ythbficbpebiekaagreat", sum := "9f53afad48cf9d911685f8c93e689dd9c3d845f3db8f49be9ce54f22772b3f42", func := "klister/klisterlaw08.RelayTimes", spec := "relayTimes", unfollowed := true, recurses := true, plainKeys := false, apart := false, narrowed := true }
def RelayTimesUptoSaid : Prop := relayTimesUptoRow.holds Tryz.pinned (OpenSpec.upto relayTimesSpec)

/-- 'klisterlaw03.TargetFallen', WHERE WHAT IT READS IS OF BULK AT MOST 1048576: true; the input reads as it did. -/
def targetFallenUptoRow : OpenClaim := { program := "ythbficbpebiekaagreat", sum := "9f53afad48cf9d911685f8c93e689dd9c3d845f3db8f49be9ce54f22772b3f42", func := "klister/klisterlaw03.TargetFallen", spec := "targetFallen", unfollowed := true, recurses := true, plainKeys := false, apart := false, narrowed := true }
def TargetFallenUptoSaid : Prop := targetFallenUptoRow.holds Tryz.pinned (OpenSpec.upto targetFallenSpec)

/-- 'klisterlaw02.StartBoxed', WHERE WHAT IT READS IS OF BULK AT MOST 1048576: true; the input reads as it did. -/
def startBoxedUptoRow : OpenClaim := { program := "ythbficbpebiekaagreat", sum := "9f53afad48cf9d911685f8c93e689dd9c3d845f3db8f49be9ce54f22772b3f42", func := "klister/klisterlaw02.StartBoxed", spec := "startBoxed", unfollowed := true, recurses := true, plainKeys := false, apart := false, narrowed := true }
def StartBoxedUptoSaid : Prop := startBoxedUptoRow.holds Tryz.pinned (OpenSpec.upto startBoxedSpec)

/-- 'klisterlaw02.StartGated', WHERE WHAT IT READS IS OF BULK AT MOST 1048576: true; the input reads as it did. -/
def startGatedUptoRow : OpenClaim := { program := "ythbficbpebiekaagreat", sum := "9f53afad48cf9d911685f8c93e689dd9c3d845f3db8f49be9ce54f22772b3f42", func := "klister/klisterlaw02.StartGated", spec := "startGated", unfollowed := true, recurses := true, plainKeys := false, apart := false, narrowed := true }
def StartGatedUptoSaid : Prop := startGatedUptoRow.holds Tryz.pinned (OpenSpec.upto startGatedSpec)

/-- 'klisterlaw02.StartGates', WHERE WHAT IT READS IS OF BULK AT MOST 1048576: true; the input reads as it did. -/
def startGatesUptoRow : OpenClaim := { program := "ythbficbpebiekaagreat", sum := "9f53afad48cf9d911685f8c93e689dd9c3d845f3db8f49be9ce54f22772b3f42", func := "klister/klisterlaw02.StartGates", spec := "startGates", unfollowed := true, recurses := true, plainKeys := false, apart := false, narrowed := true }
def StartGatesUptoSaid : Prop := startGatesUptoRow.holds Tryz.pinned (OpenSpec.upto startGatesSpec)

/-- 'klisterlaw02.StartChanged', WHERE WHAT IT READS IS OF BULK AT MOST 1048576: true; the input reads as it did. -/
def startChangedUptoRow : OpenClaim := { program := "ythbficbpebiekaagreat", sum := "9f53afad48cf9d911685f8c93e689dd9c3d845f3db8f49be9ce54f22772b3f42", func := "klister/klisterlaw02.StartChanged", spec := "startChanged", inPlace := ["slices.overlaps[klister/start.Start]"], unfollowed := true, recurses := true, plainKeys := false, apart := false, narrowed := true }
def StartChangedUptoSaid : Prop := startChangedUptoRow.holds Tryz.pinned (OpenSpec.upto startChangedSpec)

end Rows
end Go.Proofs.YthbficbpebiekaaGreat
