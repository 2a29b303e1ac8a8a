/-
  No cell of these rows narrows 'for every input' (looked for: loops, veiled, ifaces, maps, wideKeys, modest, calm, conditions, laid).
  DERIVED. THE GIVEN ROWS OF THIS SEAT. 3 by the template 'for every input the law returns true; each argument reads behind the call as it read before'; 0 by the template 'total and deterministic' (their statements: YtbpllbhagaoocaaGreatTotals.lean).
  GIVEN WITH THE SEED: the statements are not yours to turn. If you find one false, say at which input.
  Laid BY PROGRAM, IN A SANDBOX (cutbox-rows.mjs): the forced cells as the released guide's own fill.sh prints them over the translation 456a358670b75be4… (all of the seat's roots in one cut). By AI agents, Wed Nov 11 2026. No macro, syntax, notation, axiom, sorry.
-/
import Derived.Test.YtbpllbhagaoocaaGreatChecked
import GoSem.Claim
import GoSem.ClaimJoined
import GoSem.ClaimMapViews
import Derived.JoinedTies
import Derived.KernelRfl
namespace Go.Proofs.YtbpllbhagaoocaaGreat
/- THE CELL 'sum', in the pinned program and in every row, IS THE sha256 OF THE DUMP (.gsa) THAT YtbpllbhagaoocaaGreatProg.lean LOADS. Nothing in Lean hashes anything: it is a label: what it is worth is what the hold of that sum in a sandbox is worth. -/
noncomputable def Tryz.pinned : Pinned := { name := "ytbpllbhagaoocaagreat", sum := "456a358670b75be4ba300688f5debd7f4800abd0e3d39bfed0825bed176cccfd", checked := Tryz.checked }
namespace Rows
def none {H : Type} : Left H := { results := [], args := [] }

/-- 'klisterlaw02.StartLapped': WHATEVER THE INPUT: true; the input reads as it did. -/
def startLappedSpec : ChangeSpec := { name := "startLapped", fn := fun _ => fun
  | [d] => { results := [.lit (.bool true)], args := [d] }
  | _ => none }
def startLappedRow : OpenClaim := { program := "ytbpllbhagaoocaagreat", sum := "456a358670b75be4ba300688f5debd7f4800abd0e3d39bfed0825bed176cccfd", func := "klister/klisterlaw02.StartLapped", spec := "startLapped", unfollowed := true, recurses := true, plainKeys := false, apart := false }
def StartLappedSaid : Prop := startLappedRow.holds Tryz.pinned (OpenSpec.ofChange startLappedSpec)

/-- ITS FALSE NEIGHBOUR: 'it returns false'. Refute it at one input. -/
def startLappedWrong : ChangeSpec := { name := "startLapped", fn := fun _ => fun
  | [d] => { results := [.lit (.bool false)], args := [d] }
  | _ => none }
def StartLappedWrongFalsely : Prop := startLappedRow.holds Tryz.pinned (OpenSpec.ofChange startLappedWrong)

/-- 'klisterlaw03.TargetSlower': WHATEVER THE INPUT: true; the input reads as it did. -/
def targetSlowerSpec : ChangeSpec := { name := "targetSlower", fn := fun _ => fun
  | [d1, d2, d3] => { results := [.lit (.bool true)], args := [d1, d2, d3] }
  | _ => none }
def targetSlowerRow : OpenClaim := { program := "ytbpllbhagaoocaagreat", sum := "456a358670b75be4ba300688f5debd7f4800abd0e3d39bfed0825bed176cccfd", func := "klister/klisterlaw03.TargetSlower", spec := "targetSlower", unfollowed := true, recurses := true, plainKeys := false, apart := false }
def TargetSlowerSaid : Prop := targetSlowerRow.holds Tryz.pinned (OpenSpec.ofChange targetSlowerSpec)

/-- ITS FALSE NEIGHBOUR: 'it returns false'. Refute it at one input. -/
def targetSlowerWrong : ChangeSpec := { name := "targetSlower", fn := fun _ => fun
  | [d1, d2, d3] => { results := [.lit (.bool false)], args := [d1, d2, d3] }
  | _ => none }
def TargetSlowerWrongFalsely : Prop := targetSlowerRow.holds Tryz.pinned (OpenSpec.ofChange targetSlowerWrong)

/-- 'klisterlaw02.StartLaps': WHATEVER THE INPUT: true; the input reads as it did. -/
def startLapsSpec : ChangeSpec := { name := "startLaps", fn := fun _ => fun
  | [d] => { results := [.lit (.bool true)], args := [d] }
  | _ => none }
def startLapsRow : OpenClaim := { program := "ytbpllbhagaoocaagreat", sum := "456a358670b75be4ba300688f5debd7f4800abd0e3d39bfed0825bed176cccfd", func := "klister/klisterlaw02.StartLaps", spec := "startLaps", unfollowed := true, recurses := true, plainKeys := false, apart := false }
def StartLapsSaid : Prop := startLapsRow.holds Tryz.pinned (OpenSpec.ofChange startLapsSpec)

/-- ITS FALSE NEIGHBOUR: 'it returns false'. Refute it at one input. -/
def startLapsWrong : ChangeSpec := { name := "startLaps", fn := fun _ => fun
  | [d] => { results := [.lit (.bool false)], args := [d] }
  | _ => none }
def StartLapsWrongFalsely : Prop := startLapsRow.holds Tryz.pinned (OpenSpec.ofChange startLapsWrong)

/- THE SECOND FORM. 'bulk': how many values and letters a reading holds, each counted each time it is reached (what is shared counts as often as it is met; a slice's spare places count too). A statement '..UptoSaid' is the law's where the arguments, and the package variables that the reading takes, are together of bulk at most 1048576: NARROWER than '..Said'. Prove '..Said' where nothing that the law and all that it calls make is longer than what came in: it says more and counts as full. Else prove '..UptoSaid'. A law counts once. -/
mutual
def uptoBulk {H : Type} : DataW H → Nat
  | .lit (.string bytes) => bytes.length + 1
  | .lit _ => 1
  | .nil => 1
  | .ptr d => uptoBulk d + 1
  | .slice elems spare => uptoBulkAll elems + uptoBulkAll spare + 1
  | .agg parts => uptoBulkAll parts + 1
  | .iface _ d => uptoBulk d + 1
  | .map entries => uptoBulkEntries entries + 1
  | .held _ => 1
def uptoBulkAll {H : Type} : List (DataW H) → Nat
  | [] => 0
  | d :: r => uptoBulk d + uptoBulkAll r
def uptoBulkEntries {H : Type} : List (Lit × DataW H) → Nat
  | [] => 0
  | x :: r => uptoBulkEntry x + uptoBulkEntries r
def uptoBulkEntry {H : Type} : Lit × DataW H → Nat
  | (.string bytes, d) => bytes.length + uptoBulk d + 1
  | (_, d) => uptoBulk d + 1
 end
def uptoSmall : (H : Type) → List (DataW H) → Bool := fun _ ds => decide (uptoBulkAll ds ≤ 1048576)
def OpenSpec.upto (s : _root_.Go.ChangeSpec) : _root_.Go.OpenSpec := { _root_.Go.OpenSpec.ofChange s with cond := some uptoSmall }

/-- 'klisterlaw02.StartLapped', WHERE WHAT IT READS IS OF BULK AT MOST 1048576: true; the input reads as it did. -/
def startLappedUptoRow : OpenClaim := { program := "ytbpllbhagaoocaagreat", sum := "456a358670b75be4ba300688f5debd7f4800abd0e3d39bfed0825bed176cccfd", func := "klister/klisterlaw02.StartLapped", spec := "startLapped", unfollowed := true, recurses := true, plainKeys := false, apart := false, narrowed := true }
def StartLappedUptoSaid : Prop := startLappedUptoRow.holds Tryz.pinned (OpenSpec.upto startLappedSpec)

/-- 'klisterlaw03.TargetSlower', WHERE WHAT IT READS IS OF BULK AT MOST 1048576: true; the input reads as it did. -/
def targetSlowerUptoRow : OpenClaim := { program := "ytbpllbhagaoocaagreat", sum := "456a358670b75be4ba300688f5debd7f4800abd0e3d39bfed0825bed176cccfd", func := "klister/klisterlaw03.TargetSlower", spec := "targetSlower", unfollowed := true, recurses := true, plainKeys := false, apart := false, narrowed := true }
def TargetSlowerUptoSaid : Prop := targetSlowerUptoRow.holds Tryz.pinned (OpenSpec.upto targetSlowerSpec)

/-- 'klisterlaw02.StartLaps', WHERE WHAT IT READS IS OF BULK AT MOST 1048576: true; the input reads as it did. -/
def startLapsUptoRow : OpenClaim := { program := "ytbpllbhagaoocaagreat", sum := "456a358670b75be4ba300688f5debd7f4800abd0e3d39bfed0825bed176cccfd", func := "klister/klisterlaw02.StartLaps", spec := "startLaps", unfollowed := true, recurses := true, plainKeys := false, apart := false, narrowed := true }
def StartLapsUptoSaid : Prop := startLapsUptoRow.holds Tryz.pinned (OpenSpec.upto startLapsSpec)

end Rows
end Go.Proofs.YtbpllbhagaoocaaGreat
