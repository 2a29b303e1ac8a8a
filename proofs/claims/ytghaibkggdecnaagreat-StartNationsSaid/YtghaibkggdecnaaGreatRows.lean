/-
  No cell of these rows narrows 'for every input' (looked for: loops, veiled, ifaces, maps, wideKeys, modest, calm, conditions, laid).
  DERIVED. THE GIVEN ROWS OF THIS SEAT. 8 by the template 'for every input the law returns true; each argument reads behind the call as it read before'; 0 by the template 'total and deterministic' (their statements: YtghaibkggdecnaaGreatTotals.lean).
  GIVEN WITH THE SEED: the statements are not yours to turn. If you find one false, say at which input.
  Laid BY PROGRAM, IN A SANDBOX (cutbox-rows.mjs): the forced cells as the released guide's own fill.sh prints them over the translation 27192fb02f97233d… (all of the seat's roots in one cut). By AI agents, Wed Nov 11 2026. No macro, syntax, notation, axiom, sorry.
-/
import Derived.Test.YtghaibkggdecnaaGreatChecked
import GoSem.Claim
import GoSem.ClaimJoined
import GoSem.ClaimMapViews
import Derived.JoinedTies
import Derived.KernelRfl
namespace Go.Proofs.YtghaibkggdecnaaGreat
/- THE CELL 'sum', in the pinned program and in every row, IS THE sha256 OF THE DUMP (.gsa) THAT YtghaibkggdecnaaGreatProg.lean LOADS. Nothing in Lean hashes anything: it is a label: what it is worth is what the hold of that sum in a sandbox is worth. -/
noncomputable def Tryz.pinned : Pinned := { name := "ytghaibkggdecnaagreat", sum := "27192fb02f97233ddaf8207b150be59f9b7f76d91eba58376176fe941b8578cd", checked := Tryz.checked }
namespace Rows
def none {H : Type} : Left H := { results := [], args := [] }

/-- 'klisterlaw02.StartPursuits': WHATEVER THE INPUT: true; the input reads as it did. -/
def startPursuitsSpec : ChangeSpec := { name := "startPursuits", fn := fun _ => fun
  | [d1, d2] => { results := [.lit (.bool true)], args := [d1, d2] }
  | _ => none }
def startPursuitsRow : OpenClaim := { program := "ytghaibkggdecnaagreat", sum := "27192fb02f97233ddaf8207b150be59f9b7f76d91eba58376176fe941b8578cd", func := "klister/klisterlaw02.StartPursuits", spec := "startPursuits", unfollowed := true, recurses := true, apart := false }
def StartPursuitsSaid : Prop := startPursuitsRow.holds Tryz.pinned (OpenSpec.ofChange startPursuitsSpec)

/-- ITS FALSE NEIGHBOUR: 'it returns false'. Refute it at one input. -/
def startPursuitsWrong : ChangeSpec := { name := "startPursuits", fn := fun _ => fun
  | [d1, d2] => { results := [.lit (.bool false)], args := [d1, d2] }
  | _ => none }
def StartPursuitsWrongFalsely : Prop := startPursuitsRow.holds Tryz.pinned (OpenSpec.ofChange startPursuitsWrong)

/-- 'klisterlaw02.StartDeficits': WHATEVER THE INPUT: true; the input reads as it did. -/
def startDeficitsSpec : ChangeSpec := { name := "startDeficits", fn := fun _ => fun
  | [d1, d2, d3, d4] => { results := [.lit (.bool true)], args := [d1, d2, d3, d4] }
  | _ => none }
def startDeficitsRow : OpenClaim := { program := "ytghaibkggdecnaagreat", sum := "27192fb02f97233ddaf8207b150be59f9b7f76d91eba58376176fe941b8578cd", func := "klister/klisterlaw02.StartDeficits", spec := "startDeficits", unfollowed := true, recurses := true, apart := false }
def StartDeficitsSaid : Prop := startDeficitsRow.holds Tryz.pinned (OpenSpec.ofChange startDeficitsSpec)

/-- ITS FALSE NEIGHBOUR: 'it returns false'. Refute it at one input. -/
def startDeficitsWrong : ChangeSpec := { name := "startDeficits", fn := fun _ => fun
  | [d1, d2, d3, d4] => { results := [.lit (.bool false)], args := [d1, d2, d3, d4] }
  | _ => none }
def StartDeficitsWrongFalsely : Prop := startDeficitsRow.holds Tryz.pinned (OpenSpec.ofChange startDeficitsWrong)

/-- 'klisterlaw02.StartNamed': WHATEVER THE INPUT: true; the input reads as it did. -/
def startNamedSpec : ChangeSpec := { name := "startNamed", fn := fun _ => fun
  | [d1, d2] => { results := [.lit (.bool true)], args := [d1, d2] }
  | _ => none }
def startNamedRow : OpenClaim := { program := "ytghaibkggdecnaagreat", sum := "27192fb02f97233ddaf8207b150be59f9b7f76d91eba58376176fe941b8578cd", func := "klister/klisterlaw02.StartNamed", spec := "startNamed", unfollowed := true, recurses := true, apart := false }
def StartNamedSaid : Prop := startNamedRow.holds Tryz.pinned (OpenSpec.ofChange startNamedSpec)

/-- ITS FALSE NEIGHBOUR: 'it returns false'. Refute it at one input. -/
def startNamedWrong : ChangeSpec := { name := "startNamed", fn := fun _ => fun
  | [d1, d2] => { results := [.lit (.bool false)], args := [d1, d2] }
  | _ => none }
def StartNamedWrongFalsely : Prop := startNamedRow.holds Tryz.pinned (OpenSpec.ofChange startNamedWrong)

/-- 'klisterlaw02.StartFields': WHATEVER THE INPUT: true; the input reads as it did. -/
def startFieldsSpec : ChangeSpec := { name := "startFields", fn := fun _ => fun
  | [d1, d2, d3] => { results := [.lit (.bool true)], args := [d1, d2, d3] }
  | _ => none }
def startFieldsRow : OpenClaim := { program := "ytghaibkggdecnaagreat", sum := "27192fb02f97233ddaf8207b150be59f9b7f76d91eba58376176fe941b8578cd", func := "klister/klisterlaw02.StartFields", spec := "startFields", unfollowed := true, recurses := true, apart := false }
def StartFieldsSaid : Prop := startFieldsRow.holds Tryz.pinned (OpenSpec.ofChange startFieldsSpec)

/-- ITS FALSE NEIGHBOUR: 'it returns false'. Refute it at one input. -/
def startFieldsWrong : ChangeSpec := { name := "startFields", fn := fun _ => fun
  | [d1, d2, d3] => { results := [.lit (.bool false)], args := [d1, d2, d3] }
  | _ => none }
def StartFieldsWrongFalsely : Prop := startFieldsRow.holds Tryz.pinned (OpenSpec.ofChange startFieldsWrong)

/-- 'klisterlaw02.StartApart': WHATEVER THE INPUT: true; the input reads as it did. -/
def startApartSpec : ChangeSpec := { name := "startApart", fn := fun _ => fun
  | [d1, d2] => { results := [.lit (.bool true)], args := [d1, d2] }
  | _ => none }
def startApartRow : OpenClaim := { program := "ytghaibkggdecnaagreat", sum := "27192fb02f97233ddaf8207b150be59f9b7f76d91eba58376176fe941b8578cd", func := "klister/klisterlaw02.StartApart", spec := "startApart", unfollowed := true, recurses := true, apart := false }
def StartApartSaid : Prop := startApartRow.holds Tryz.pinned (OpenSpec.ofChange startApartSpec)

/-- ITS FALSE NEIGHBOUR: 'it returns false'. Refute it at one input. -/
def startApartWrong : ChangeSpec := { name := "startApart", fn := fun _ => fun
  | [d1, d2] => { results := [.lit (.bool false)], args := [d1, d2] }
  | _ => none }
def StartApartWrongFalsely : Prop := startApartRow.holds Tryz.pinned (OpenSpec.ofChange startApartWrong)

/-- 'klisterlaw02.StartDrawn': WHATEVER THE INPUT: true; the input reads as it did. -/
def startDrawnSpec : ChangeSpec := { name := "startDrawn", fn := fun _ => fun
  | [d1, d2, d3] => { results := [.lit (.bool true)], args := [d1, d2, d3] }
  | _ => none }
def startDrawnRow : OpenClaim := { program := "ytghaibkggdecnaagreat", sum := "27192fb02f97233ddaf8207b150be59f9b7f76d91eba58376176fe941b8578cd", func := "klister/klisterlaw02.StartDrawn", spec := "startDrawn", unfollowed := true, recurses := true, apart := false }
def StartDrawnSaid : Prop := startDrawnRow.holds Tryz.pinned (OpenSpec.ofChange startDrawnSpec)

/-- ITS FALSE NEIGHBOUR: 'it returns false'. Refute it at one input. -/
def startDrawnWrong : ChangeSpec := { name := "startDrawn", fn := fun _ => fun
  | [d1, d2, d3] => { results := [.lit (.bool false)], args := [d1, d2, d3] }
  | _ => none }
def StartDrawnWrongFalsely : Prop := startDrawnRow.holds Tryz.pinned (OpenSpec.ofChange startDrawnWrong)

/-- 'klisterlaw02.StartNations': WHATEVER THE INPUT: true; the input reads as it did. -/
def startNationsSpec : ChangeSpec := { name := "startNations", fn := fun _ => fun
  | [d1, d2, d3, d4] => { results := [.lit (.bool true)], args := [d1, d2, d3, d4] }
  | _ => none }
def startNationsRow : OpenClaim := { program := "ytghaibkggdecnaagreat", sum := "27192fb02f97233ddaf8207b150be59f9b7f76d91eba58376176fe941b8578cd", func := "klister/klisterlaw02.StartNations", spec := "startNations", unfollowed := true, recurses := true, apart := false }
def StartNationsSaid : Prop := startNationsRow.holds Tryz.pinned (OpenSpec.ofChange startNationsSpec)

/-- ITS FALSE NEIGHBOUR: 'it returns false'. Refute it at one input. -/
def startNationsWrong : ChangeSpec := { name := "startNations", fn := fun _ => fun
  | [d1, d2, d3, d4] => { results := [.lit (.bool false)], args := [d1, d2, d3, d4] }
  | _ => none }
def StartNationsWrongFalsely : Prop := startNationsRow.holds Tryz.pinned (OpenSpec.ofChange startNationsWrong)

/-- 'klisterlaw02.StartLists': WHATEVER THE INPUT: true; the input reads as it did. -/
def startListsSpec : ChangeSpec := { name := "startLists", fn := fun _ => fun
  | [d1, d2, d3, d4, d5] => { results := [.lit (.bool true)], args := [d1, d2, d3, d4, d5] }
  | _ => none }
def startListsRow : OpenClaim := { program := "ytghaibkggdecnaagreat", sum := "27192fb02f97233ddaf8207b150be59f9b7f76d91eba58376176fe941b8578cd", func := "klister/klisterlaw02.StartLists", spec := "startLists", inPlace := ["slices.overlaps[klister/start.Start]"], unfollowed := true, recurses := true, apart := false }
def StartListsSaid : Prop := startListsRow.holds Tryz.pinned (OpenSpec.ofChange startListsSpec)

/-- ITS FALSE NEIGHBOUR: 'it returns false'. Refute it at one input. -/
def startListsWrong : ChangeSpec := { name := "startLists", fn := fun _ => fun
  | [d1, d2, d3, d4, d5] => { results := [.lit (.bool false)], args := [d1, d2, d3, d4, d5] }
  | _ => none }
def StartListsWrongFalsely : Prop := startListsRow.holds Tryz.pinned (OpenSpec.ofChange startListsWrong)

/- THE SECOND FORM. 'bulk': how many values and letters a reading holds, each counted each time it is reached (what is shared counts as often as it is met; a slice's spare places count too). A statement '..UptoSaid' is the law's where the arguments, and the package variables that the reading takes, are together of bulk at most 1048576: NARROWER than '..Said'. Prove '..Said' where nothing that the law and all that it calls make is longer than what came in: it says more and counts as full. Else prove '..UptoSaid'. A law counts once. -/
mutual
def uptoBulk {H : Type} : DataW H → Nat
  | .lit (.string bytes) => bytes.length + 1
  | .lit _ => 1
  | .nil => 1
  | .ptr d => uptoBulk d + 1
  | .slice elems spare => uptoBulkAll elems + uptoBulkAll spare + 1
  | .agg parts => uptoBulkAll parts + 1
  | .iface _ d => uptoBulk d + 1
  | .map entries => uptoBulkEntries entries + 1
  | .held _ => 1
def uptoBulkAll {H : Type} : List (DataW H) → Nat
  | [] => 0
  | d :: r => uptoBulk d + uptoBulkAll r
def uptoBulkEntries {H : Type} : List (Lit × DataW H) → Nat
  | [] => 0
  | x :: r => uptoBulkEntry x + uptoBulkEntries r
def uptoBulkEntry {H : Type} : Lit × DataW H → Nat
  | (.string bytes, d) => bytes.length + uptoBulk d + 1
  | (_, d) => uptoBulk d + 1
 end
def uptoSmall : (H : Type) → List (DataW H) → Bool := fun _ ds => decide (uptoBulkAll ds ≤ 1048576)
def OpenSpec.upto (s : _root_.Go.ChangeSpec) : _root_.Go.OpenSpec := { _root_.Go.OpenSpec.ofChange s with cond := some uptoSmall }

/-- 'klisterlaw02.StartPursuits', WHERE WHAT IT READS IS OF BULK AT MOST 1048576: true; the input reads as it did. -/
def startPursuitsUptoRow : OpenClaim := { program := "ytghaibkggdecnaagreat", sum := "27192fb02f97233ddaf8207b150be59f9b7f76d91eba58376176fe941b8578cd", func := "klister/klisterlaw02.StartPursuits", spec := "startPursuits", unfollowed := true, recurses := true, apart := false, narrowed := true }
def StartPursuitsUptoSaid : Prop := startPursuitsUptoRow.holds Tryz.pinned (OpenSpec.upto startPursuitsSpec)

/-- 'klisterlaw02.StartDeficits', WHERE WHAT IT READS IS OF BULK AT MOST 1048576: true; the input reads as it did. -/
def startDeficitsUptoRow : OpenClaim := { program := "ytghaibkggdecnaagreat", sum := "27192fb02f97233ddaf8207b150be59f9b7f76d91eba58376176fe941b8578cd", func := "klister/klisterlaw02.StartDeficits", spec := "startDeficits", unfollowed := true, recurses := true, apart := false, narrowed := true }
def StartDeficitsUptoSaid : Prop := startDeficitsUptoRow.holds Tryz.pinned (OpenSpec.upto startDeficitsSpec)

/-- 'klisterlaw02.StartNamed', WHERE WHAT IT READS IS OF BULK AT MOST 1048576: true; the input reads as it did. -/
def startNamedUptoRow : OpenClaim := { program := "ytghaibkggdecnaagreat", sum := "27192fb02f97233ddaf8207b150be59f9b7f76d91eba58376176fe941b8578cd", func := "klister/klisterlaw02.StartNamed", spec := "startNamed", unfollowed := true, recurses := true, apart := false, narrowed := true }
def StartNamedUptoSaid : Prop := startNamedUptoRow.holds Tryz.pinned (OpenSpec.upto startNamedSpec)

/-- 'klisterlaw02.StartFields', WHERE WHAT IT READS IS OF BULK AT MOST 1048576: true; the input reads as it did. -/
def startFieldsUptoRow : OpenClaim := { program := "ytghaibkggdecnaagreat", sum := "27192fb02f97233ddaf8207b150be59f9b7f76d91eba58376176fe941b8578cd", func := "klister/klisterlaw02.StartFields", spec := "startFields", unfollowed := true, recurses := true, apart := false, narrowed := true }
def StartFieldsUptoSaid : Prop := startFieldsUptoRow.holds Tryz.pinned (OpenSpec.upto startFieldsSpec)

/-- 'klisterlaw02.StartApart', WHERE WHAT IT READS IS OF BULK AT MOST 1048576: true; the input reads as it did. -/
def startApartUptoRow : OpenClaim := { program := "ytghaibkggdecnaagreat", sum := "27192fb02f97233ddaf8207b150be59f9b7f76d91eba58376176fe941b8578cd", func := "klister/klisterlaw02.StartApart", spec := "startApart", unfollowed := true, recurses := true, apart := false, narrowed := true }
def StartApartUptoSaid : Prop := startApartUptoRow.holds Tryz.pinned (OpenSpec.upto startApartSpec)

/-- 'klisterlaw02.StartDrawn', WHERE WHAT IT READS IS OF BULK AT MOST 1048576: true; the input reads as it did. -/
def startDrawnUptoRow : OpenClaim := { program := "ytghaibkggdecnaagreat", sum := "27192fb02f97233ddaf8207b150be59f9b7f76d91eba58376176fe941b8578cd", func := "klister/klisterlaw02.StartDrawn", spec := "startDrawn", unfollowed := true, recurses := true, apart := false, narrowed := true }
def StartDrawnUptoSaid : Prop := startDrawnUptoRow.holds Tryz.pinned (OpenSpec.upto startDrawnSpec)

/-- 'klisterlaw02.StartNations', WHERE WHAT IT READS IS OF BULK AT MOST 1048576: true; the input reads as it did. -/
def startNationsUptoRow : OpenClaim := { program := "ytghaibkggdecnaagreat", sum := "27192fb02f97233ddaf8207b150be59f9b7f76d91eba58376176fe941b8578cd", func := "klister/klisterlaw02.StartNations", spec := "startNations", unfollowed := true, recurses := true, apart := false, narrowed := true }
def StartNationsUptoSaid : Prop := startNationsUptoRow.holds Tryz.pinned (OpenSpec.upto startNationsSpec)

/-- 'klisterlaw02.StartLists', WHERE WHAT IT READS IS OF BULK AT MOST 1048576: true; the input reads as it did. -/
def startListsUptoRow : OpenClaim := { program := "ytghaibkggdecnaagreat", sum := "27192fb02f97233ddaf8207b150be59f9b7f76d91eba58376176fe941b8578cd", func := "klister/klisterlaw02.StartLists", spec := "startLists", inPlace := ["slices.overlaps[klister/start.Start]"], unfollowed := true, recurses := true, apart := false, narrowed := true }
def StartListsUptoSaid : Prop := startListsUptoRow.holds Tryz.pinned (OpenSpec.upto startListsSpec)

end Rows
end Go.Proofs.YtghaibkggdecnaaGreat
