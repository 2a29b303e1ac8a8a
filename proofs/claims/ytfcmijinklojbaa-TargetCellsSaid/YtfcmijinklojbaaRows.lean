/-
  No cell of these rows narrows 'for every input' (looked for: loops, veiled, ifaces, maps, wideKeys, modest, calm, conditions, laid).
  DERIVED. THE GIVEN ROWS OF THIS SEAT. 4 by the template 'for every input the law returns true; each argument reads behind the call as it read before'; 0 by the template 'total and deterministic' (their statements: YtfcmijinklojbaaTotals.lean).
  GIVEN WITH THE SEED: the statements are not yours to turn. If you find one false, say at which input.
  Laid BY PROGRAM, IN A SANDBOX (cutbox-rows.mjs): the forced cells as the released guide's own fill.sh prints them over the translation 2985778897649bbe… (all of the seat's roots in one cut). By AI agents, Wed Nov 11 2026. No macro, syntax, notation, axiom, sorry.
-/
import Derived.Test.YtfcmijinklojbaaChecked
import GoSem.Claim
import GoSem.ClaimJoined
import GoSem.ClaimMapViews
import Derived.JoinedTies
import Derived.KernelRfl
namespace Go.Proofs.Ytfcmijinklojbaa
/- THE CELL 'sum', in the pinned program and in every row, IS THE sha256 OF THE DUMP (.gsa) THAT YtfcmijinklojbaaProg.lean LOADS. Nothing in Lean hashes anything: it is a label: what it is worth is what the hold of that sum in a sandbox is worth. -/
noncomputable def Try.pinned : Pinned := { name := "ytfcmijinklojbaa", sum := "2985778897649bbece46858fe4f4622a3132c5b412a33a01883fef72a50ab78b", checked := Try.checked }
namespace Rows
def none {H : Type} : Left H := { results := [], args := [] }

/-- 'klisterlaw03.TargetNamed': WHATEVER THE INPUT: true; the input reads as it did. -/
def targetNamedSpec : ChangeSpec := { name := "targetNamed", fn := fun _ => fun
  | [d1, d2] => { results := [.lit (.bool true)], args := [d1, d2] }
  | _ => none }
def targetNamedRow : OpenClaim := { program := "ytfcmijinklojbaa", sum := "2985778897649bbece46858fe4f4622a3132c5b412a33a01883fef72a50ab78b", func := "klister/klisterlaw03.TargetNamed", spec := "targetNamed", unfollowed := true, recurses := true, plainKeys := false, apart := false }
def TargetNamedSaid : Prop := targetNamedRow.holds Try.pinned (OpenSpec.ofChange targetNamedSpec)

/-- ITS FALSE NEIGHBOUR: 'it returns false'. Refute it at one input. -/
def targetNamedWrong : ChangeSpec := { name := "targetNamed", fn := fun _ => fun
  | [d1, d2] => { results := [.lit (.bool false)], args := [d1, d2] }
  | _ => none }
def TargetNamedWrongFalsely : Prop := targetNamedRow.holds Try.pinned (OpenSpec.ofChange targetNamedWrong)

/-- 'klisterlaw03.TargetCells': WHATEVER THE INPUT: true; the input reads as it did. -/
def targetCellsSpec : ChangeSpec := { name := "targetCells", fn := fun _ => fun
  | [d1, d2, d3, d4] => { results := [.lit (.bool true)], args := [d1, d2, d3, d4] }
  | _ => none }
def targetCellsRow : OpenClaim := { program := "ytfcmijinklojbaa", sum := "2985778897649bbece46858fe4f4622a3132c5b412a33a01883fef72a50ab78b", func := "klister/klisterlaw03.TargetCells", spec := "targetCells", unfollowed := true, recurses := true, plainKeys := false, apart := false }
def TargetCellsSaid : Prop := targetCellsRow.holds Try.pinned (OpenSpec.ofChange targetCellsSpec)

/-- ITS FALSE NEIGHBOUR: 'it returns false'. Refute it at one input. -/
def targetCellsWrong : ChangeSpec := { name := "targetCells", fn := fun _ => fun
  | [d1, d2, d3, d4] => { results := [.lit (.bool false)], args := [d1, d2, d3, d4] }
  | _ => none }
def TargetCellsWrongFalsely : Prop := targetCellsRow.holds Try.pinned (OpenSpec.ofChange targetCellsWrong)

/-- 'klisterlaw03.TargetShown': WHATEVER THE INPUT: true; the input reads as it did. -/
def targetShownSpec : ChangeSpec := { name := "targetShown", fn := fun _ => fun
  | [d1, d2, d3, d4] => { results := [.lit (.bool true)], args := [d1, d2, d3, d4] }
  | _ => none }
def targetShownRow : OpenClaim := { program := "ytfcmijinklojbaa", sum := "2985778897649bbece46858fe4f4622a3132c5b412a33a01883fef72a50ab78b", func := "klister/klisterlaw03.TargetShown", spec := "targetShown", unfollowed := true, recurses := true, plainKeys := false, apart := false }
def TargetShownSaid : Prop := targetShownRow.holds Try.pinned (OpenSpec.ofChange targetShownSpec)

/-- ITS FALSE NEIGHBOUR: 'it returns false'. Refute it at one input. -/
def targetShownWrong : ChangeSpec := { name := "targetShown", fn := fun _ => fun
  | [d1, d2, d3, d4] => { results := [.lit (.bool false)], args := [d1, d2, d3, d4] }
  | _ => none }
def TargetShownWrongFalsely : Prop := targetShownRow.holds Try.pinned (OpenSpec.ofChange targetShownWrong)

/-- 'klisterlaw03.TargetLaid': WHATEVER THE INPUT: true; the input reads as it did. -/
def targetLaidSpec : ChangeSpec := { name := "targetLaid", fn := fun _ => fun
  | [d] => { results := [.lit (.bool true)], args := [d] }
  | _ => none }
def targetLaidRow : OpenClaim := { program := "ytfcmijinklojbaa", sum := "2985778897649bbece46858fe4f4622a3132c5b412a33a01883fef72a50ab78b", func := "klister/klisterlaw03.TargetLaid", spec := "targetLaid", unfollowed := true, recurses := true, plainKeys := false, apart := false }
def TargetLaidSaid : Prop := targetLaidRow.holds Try.pinned (OpenSpec.ofChange targetLaidSpec)

/-- ITS FALSE NEIGHBOUR: 'it returns false'. Refute it at one input. -/
def targetLaidWrong : ChangeSpec := { name := "targetLaid", fn := fun _ => fun
  | [d] => { results := [.lit (.bool false)], args := [d] }
  | _ => none }
def TargetLaidWrongFalsely : Prop := targetLaidRow.holds Try.pinned (OpenSpec.ofChange targetLaidWrong)

/- THE SECOND FORM. 'bulk': how many values and letters a reading holds, each counted each time it is reached (what is shared counts as often as it is met; a slice's spare places count too). A statement '..UptoSaid' is the law's where the arguments, and the package variables that the reading takes, are together of bulk at most 1048576: NARROWER than '..Said'. Prove '..Said' where nothing that the law and all that it calls make is longer than what came in: it says more and counts as full. Else prove '..UptoSaid'. A law counts once. -/
mutual
def uptoBulk {H : Type} : DataW H → Nat
  | .lit (.string bytes) => bytes.length + 1
  | .lit _ => 1
  | .nil => 1
  | .ptr d => uptoBulk d + 1
  | .slice elems spare => uptoBulkAll elems + uptoBulkAll spare + 1
  | .agg parts => uptoBulkAll parts + 1
  | .iface _ d => uptoBulk d + 1
  | .map entries => uptoBulkEntries entries + 1
  | .held _ => 1
def uptoBulkAll {H : Type} : List (DataW H) → Nat
  | [] => 0
  | d :: r => uptoBulk d + uptoBulkAll r
def uptoBulkEntries {H : Type} : List (Lit × DataW H) → Nat
  | [] => 0
  | x :: r => uptoBulkEntry x + uptoBulkEntries r
def uptoBulkEntry {H : Type} : Lit × DataW H → Nat
  | (.string bytes, d) => bytes.length + uptoBulk d + 1
  | (_, d) => uptoBulk d + 1
 end
def uptoSmall : (H : Type) → List (DataW H) → Bool := fun _ ds => decide (uptoBulkAll ds ≤ 1048576)
def OpenSpec.upto (s : _root_.Go.ChangeSpec) : _root_.Go.OpenSpec := { _root_.Go.OpenSpec.ofChange s with cond := some uptoSmall }

/-- 'klisterlaw03.TargetNamed', WHERE WHAT IT READS IS OF BULK AT MOST 1048576: true; the input reads as it did. -/
def targetNamedUptoRow : OpenClaim := { program := "ytfcmijinklojbaa", sum := "2985778897649bbece46858fe4f4622a3132c5b412a33a01883fef72a50ab78b", func := "klister/klisterlaw03.TargetNamed", spec := "targetNamed", unfollowed := true, recurses := true, plainKeys := false, apart := false, narrowed := true }
def TargetNamedUptoSaid : Prop := targetNamedUptoRow.holds Try.pinned (OpenSpec.upto targetNamedSpec)

/-- 'klisterlaw03.TargetCells', WHERE WHAT IT READS IS OF BULK AT MOST 1048576: true; the input reads as it did. -/
def targetCellsUptoRow : OpenClaim := { program := "ytfcmijinklojbaa", sum := "2985778897649bbece46858fe4f4622a3132c5b412a33a01883fef72a50ab78b", func := "klister/klisterlaw03.TargetCells", spec := "targetCells", unfollowed := true, recurses := true, plainKeys := false, apart := false, narrowed := true }
def TargetCellsUptoSaid : Prop := targetCellsUptoRow.holds Try.pinned (OpenSpec.upto targetCellsSpec)

/-- 'klisterlaw03.TargetShown', WHERE WHAT IT READS IS OF BULK AT MOST 1048576: true; the input reads as it did. -/
def targetShownUptoRow : OpenClaim := { program := "ytfcmijinklojbaa", sum := "2985778897649bbece46858fe4f4622a3132c5b412a33a01883fef72a50ab78b", func := "klister/klisterlaw03.TargetShown", spec := "targetShown", unfollowed := true, recurses := true, plainKeys := false, apart := false, narrowed := true }
def TargetShownUptoSaid : Prop := targetShownUptoRow.holds Try.pinned (OpenSpec.upto targetShownSpec)

/-- 'klisterlaw03.TargetLaid', WHERE WHAT IT READS IS OF BULK AT MOST 1048576: true; the input reads as it did. -/
def targetLaidUptoRow : OpenClaim := { program := "ytfcmijinklojbaa", sum := "2985778897649bbece46858fe4f4622a3132c5b412a33a01883fef72a50ab78b", func := "klister/klisterlaw03.TargetLaid", spec := "targetLaid", unfollowed := true, recurses := true, plainKeys := false, apart := false, narrowed := true }
def TargetLaidUptoSaid : Prop := targetLaidUptoRow.holds Try.pinned (OpenSpec.upto targetLaidSpec)

end Rows
end Go.Proofs.Ytfcmijinklojbaa
