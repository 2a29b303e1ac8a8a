/-
  No cell of these rows narrows 'for every input' (looked for: loops, veiled, ifaces, maps, wideKeys, modest, calm, conditions, laid).
  DERIVED. THE GIVEN ROWS OF THIS SEAT. 3 by the template 'for every input the law returns true; each argument reads behind the call as it read before'; 0 by the template 'total and deterministic' (their statements: YtapddcoodhijpaaGreatTotals.lean).
  GIVEN WITH THE SEED: the statements are not yours to turn. If you find one false, say at which input.
  Laid BY PROGRAM, IN A SANDBOX (cutbox-rows.mjs): the forced cells as the released guide's own fill.sh prints them over the translation de9c287368353c64… (all of the seat's roots in one cut). By AI agents, Wed Nov 11 2026. No macro, syntax, notation, axiom, sorry.
-/
import Derived.Test.YtapddcoodhijpaaGreatChecked
import GoSem.Claim
import GoSem.ClaimJoined
import GoSem.ClaimMapViews
import Derived.JoinedTies
import Derived.KernelRfl
namespace Go.Proofs.YtapddcoodhijpaaGreat
/- THE CELL 'sum', in the pinned program and in every row, IS THE sha256 OF THE DUMP (.gsa) THAT YtapddcoodhijpaaGreatProg.lean LOADS. Nothing in Lean hashes anything: it is a label: what it is worth is what the hold of that sum in a sandbox is worth. -/
noncomputable def Tryz.pinned : Pinned := { name := "ytapddcoodhijpaagreat", sum := "de9c287368353c646b4ef56eaf8b26253d92f6974d44670e9053f4520ffb2e12", checked := Tryz.checked }
namespace Rows
def none {H : Type} : Left H := { results := [], args := [] }

/-- 'klisterlaw02.StartLists': WHATEVER THE INPUT: true; the input reads as it did. -/
def startListsSpec : ChangeSpec := { name := "startLists", fn := fun _ => fun
  | [d1, d2, d3, d4, d5] => { results := [.lit (.bool true)], args := [d1, d2, d3, d4, d5] }
  | _ => none }
def startListsRow : OpenClaim := { program := "ytapddcoodhijpaagreat", sum := "de9c287368353c646b4ef56eaf8b26253d92f6974d44670e9053f4520ffb2e12", func := "klister/klisterlaw02.StartLists", spec := "startLists", inPlace := ["slices.overlaps[klister/start.Start]"], unfollowed := true, recurses := true, apart := false }
def StartListsSaid : Prop := startListsRow.holds Tryz.pinned (OpenSpec.ofChange startListsSpec)

/-- ITS FALSE NEIGHBOUR: 'it returns false'. Refute it at one input. -/
def startListsWrong : ChangeSpec := { name := "startLists", fn := fun _ => fun
  | [d1, d2, d3, d4, d5] => { results := [.lit (.bool false)], args := [d1, d2, d3, d4, d5] }
  | _ => none }
def StartListsWrongFalsely : Prop := startListsRow.holds Tryz.pinned (OpenSpec.ofChange startListsWrong)

/-- 'klisterlaw02.StartChanged': WHATEVER THE INPUT: true; the input reads as it did. -/
def startChangedSpec : ChangeSpec := { name := "startChanged", fn := fun _ => fun
  | [d1, d2, d3, d4] => { results := [.lit (.bool true)], args := [d1, d2, d3, d4] }
  | _ => none }
def startChangedRow : OpenClaim := { program := "ytapddcoodhijpaagreat", sum := "de9c287368353c646b4ef56eaf8b26253d92f6974d44670e9053f4520ffb2e12", func := "klister/klisterlaw02.StartChanged", spec := "startChanged", inPlace := ["slices.overlaps[klister/start.Start]"], unfollowed := true, recurses := true, apart := false }
def StartChangedSaid : Prop := startChangedRow.holds Tryz.pinned (OpenSpec.ofChange startChangedSpec)

/-- ITS FALSE NEIGHBOUR: 'it returns false'. Refute it at one input. -/
def startChangedWrong : ChangeSpec := { name := "startChanged", fn := fun _ => fun
  | [d1, d2, d3, d4] => { results := [.lit (.bool false)], args := [d1, d2, d3, d4] }
  | _ => none }
def StartChangedWrongFalsely : Prop := startChangedRow.holds Tryz.pinned (OpenSpec.ofChange startChangedWrong)

/-- 'klisterlaw08.RelayRanked': WHATEVER THE INPUT: true; the input reads as it did. -/
def relayRankedSpec : ChangeSpec := { name := "relayRanked", fn := fun _ => fun
  | [d1, d2] => { results := [.lit (.bool true)], args := [d1, d2] }
  | _ => none }
def relayRankedRow : OpenClaim := { program := "ytapddcoodhijpaagreat", sum := "de9c287368353c646b4ef56eaf8b26253d92f6974d44670e9053f4520ffb2e12", func := "klister/klisterlaw08.RelayRanked", spec := "relayRanked", unfollowed := true, recurses := true, apart := false }
def RelayRankedSaid : Prop := relayRankedRow.holds Tryz.pinned (OpenSpec.ofChange relayRankedSpec)

/-- ITS FALSE NEIGHBOUR: 'it returns false'. Refute it at one input. -/
def relayRankedWrong : ChangeSpec := { name := "relayRanked", fn := fun _ => fun
  | [d1, d2] => { results := [.lit (.bool false)], args := [d1, d2] }
  | _ => none }
def RelayRankedWrongFalsely : Prop := relayRankedRow.holds Tryz.pinned (OpenSpec.ofChange relayRankedWrong)

/- THE SECOND FORM. 'bulk': how many values and letters a reading holds, each counted each time it is reached (what is shared counts as often as it is met; a slice's spare places count too). A statement '..UptoSaid' is the law's where the arguments, and the package variables that the reading takes, are together of bulk at most 1048576: NARROWER than '..Said'. Prove '..Said' where nothing that the law and all that it calls make is longer than what came in: it says more and counts as full. Else prove '..UptoSaid'. A law counts once. -/
mutual
def uptoBulk {H : Type} : DataW H → Nat
  | .lit (.string bytes) => bytes.length + 1
  | .lit _ => 1
  | .nil => 1
  | .ptr d => uptoBulk d + 1
  | .slice elems spare => uptoBulkAll elems + uptoBulkAll spare + 1
  | .agg parts => uptoBulkAll parts + 1
  | .iface _ d => uptoBulk d + 1
  | .map entries => uptoBulkEntries entries + 1
  | .held _ => 1
def uptoBulkAll {H : Type} : List (DataW H) → Nat
  | [] => 0
  | d :: r => uptoBulk d + uptoBulkAll r
def uptoBulkEntries {H : Type} : List (Lit × DataW H) → Nat
  | [] => 0
  | x :: r => uptoBulkEntry x + uptoBulkEntries r
def uptoBulkEntry {H : Type} : Lit × DataW H → Nat
  | (.string bytes, d) => bytes.length + uptoBulk d + 1
  | (_, d) => uptoBulk d + 1
 end
def uptoSmall : (H : Type) → List (DataW H) → Bool := fun _ ds => decide (uptoBulkAll ds ≤ 1048576)
def OpenSpec.upto (s : _root_.Go.ChangeSpec) : _root_.Go.OpenSpec := { _root_.Go.OpenSpec.ofChange s with cond := some uptoSmall }

/-- 'klisterlaw02.StartLists', WHERE WHAT IT READS IS OF BULK AT MOST 1048576: true; the input reads as it did. -/
def startListsUptoRow : OpenClaim := { program := "ytapddcoodhijpaagreat", sum := "de9c287368353c646b4ef56eaf8b26253d92f6974d44670e9053f4520ffb2e12", func := "klister/klisterlaw02.StartLists", spec := "startLists", inPlace := ["slices.overlaps[klister/start.Start]"], unfollowed := true, recurses := true, apart := false, narrowed := true }
def StartListsUptoSaid : Prop := startListsUptoRow.holds Tryz.pinned (OpenSpec.upto startListsSpec)

/-- 'klisterlaw02.StartChanged', WHERE WHAT IT READS IS OF BULK AT MOST 1048576: true; the input reads as it did. -/
def startChangedUptoRow : OpenClaim := { program := "ytapddcoodhijpaagreat", sum := "de9c287368353c646b4ef56eaf8b26253d92f6974d44670e9053f4520ffb2e12", func := "klister/klisterlaw02.StartChanged", spec := "startChanged", inPlace := ["slices.overlaps[klister/start.Start]"], unfollowed := true, recurses := true, apart := false, narrowed := true }
def StartChangedUptoSaid : Prop := startChangedUptoRow.holds Tryz.pinned (OpenSpec.upto startChangedSpec)

/-- 'klisterlaw08.RelayRanked', WHERE WHAT IT READS IS OF BULK AT MOST 1048576: true; the input reads as it did. -/
def relayRankedUptoRow : OpenClaim := { program := "ytapddcoodhijpaagreat", sum := "de9c287368353c646b4ef56eaf8b26253d92f6974d44670e9053f4520ffb2e12", func := "klister/klisterlaw08.RelayRanked", spec := "relayRanked", unfollowed := true, recurses := true, apart := false, narrowed := true }
def RelayRankedUptoSaid : Prop := relayRankedUptoRow.holds Tryz.pinned (OpenSpec.upto relayRankedSpec)

end Rows
end Go.Proofs.YtapddcoodhijpaaGreat
