/-
  No cell of these rows narrows 'for every input' (looked for: loops, veiled, ifaces, maps, wideKeys, modest, calm, conditions, laid).
  DERIVED. THE GIVEN ROWS OF THIS SEAT. 5 by the template 'for every input the law returns true; each argument reads behind the call as it read before'; 0 by the template 'total and deterministic' (their statements: YtlnfbjphfoipaaaGreatTotals.lean).
  GIVEN WITH THE SEED: the statements are not yours to turn. If you find one false, say at which input.
  Laid BY PROGRAM, IN A SANDBOX (cutbox-rows.mjs): the forced cells as the released guide's own fill.sh prints them over the translation 36acceea52fa308e… (all of the seat's roots in one cut). By AI agents, Wed Nov 11 2026. No macro, syntax, notation, axiom, sorry.
-/
import Derived.Test.YtlnfbjphfoipaaaGreatChecked
import GoSem.Claim
import GoSem.ClaimJoined
import GoSem.ClaimMapViews
import Derived.JoinedTies
import Derived.KernelRfl
namespace Go.Proofs.YtlnfbjphfoipaaaGreat
/- THE CELL 'sum', in the pinned program and in every row, IS THE sha256 OF THE DUMP (.gsa) THAT YtlnfbjphfoipaaaGreatProg.lean LOADS. Nothing in Lean hashes anything: it is a label: what it is worth is what the hold of that sum in a sandbox is worth. -/
noncomputable def Tryz.pinned : Pinned := { name := "ytlnfbjphfoipaaagreat", sum := "36acceea52fa308ec641b5b1e1cdcf3b9b53860ec85b42fda2bc9efe91e9398a", checked := Tryz.checked }
namespace Rows
def none {H : Type} : Left H := { results := [], args := [] }

/-- 'klisterlaw06.ChipRanges': WHATEVER THE INPUT: true; the input reads as it did. -/
def chipRangesSpec : ChangeSpec := { name := "chipRanges", fn := fun _ => fun
  | [d1, d2, d3, d4, d5] => { results := [.lit (.bool true)], args := [d1, d2, d3, d4, d5] }
  | _ => none }
def chipRangesRow : OpenClaim := { program := "ytlnfbjphfoipaaagreat", sum := "36acceea52fa308ec641b5b1e1cdcf3b9b53860ec85b42fda2bc9efe91e9398a", func := "klister/klisterlaw06.ChipRanges", spec := "chipRanges", unfollowed := true, recurses := true, plainKeys := false, apart := false }
def ChipRangesSaid : Prop := chipRangesRow.holds Tryz.pinned (OpenSpec.ofChange chipRangesSpec)

/-- ITS FALSE NEIGHBOUR: 'it returns false'. Refute it at one input. -/
def chipRangesWrong : ChangeSpec := { name := "chipRanges", fn := fun _ => fun
  | [d1, d2, d3, d4, d5] => { results := [.lit (.bool false)], args := [d1, d2, d3, d4, d5] }
  | _ => none }
def ChipRangesWrongFalsely : Prop := chipRangesRow.holds Tryz.pinned (OpenSpec.ofChange chipRangesWrong)

/-- 'klisterlaw06.ChipFailures': WHATEVER THE INPUT: true; the input reads as it did. -/
def chipFailuresSpec : ChangeSpec := { name := "chipFailures", fn := fun _ => fun
  | [d1, d2] => { results := [.lit (.bool true)], args := [d1, d2] }
  | _ => none }
def chipFailuresRow : OpenClaim := { program := "ytlnfbjphfoipaaagreat", sum := "36acceea52fa308ec641b5b1e1cdcf3b9b53860ec85b42fda2bc9efe91e9398a", func := "klister/klisterlaw06.ChipFailures", spec := "chipFailures", unfollowed := true, recurses := true, plainKeys := false, apart := false }
def ChipFailuresSaid : Prop := chipFailuresRow.holds Tryz.pinned (OpenSpec.ofChange chipFailuresSpec)

/-- ITS FALSE NEIGHBOUR: 'it returns false'. Refute it at one input. -/
def chipFailuresWrong : ChangeSpec := { name := "chipFailures", fn := fun _ => fun
  | [d1, d2] => { results := [.lit (.bool false)], args := [d1, d2] }
  | _ => none }
def ChipFailuresWrongFalsely : Prop := chipFailuresRow.holds Tryz.pinned (OpenSpec.ofChange chipFailuresWrong)

/-- 'klisterlaw06.ChipTruths': WHATEVER THE INPUT: true; the input reads as it did. -/
def chipTruthsSpec : ChangeSpec := { name := "chipTruths", fn := fun _ => fun
  | [d1, d2, d3] => { results := [.lit (.bool true)], args := [d1, d2, d3] }
  | _ => none }
def chipTruthsRow : OpenClaim := { program := "ytlnfbjphfoipaaagreat", sum := "36acceea52fa308ec641b5b1e1cdcf3b9b53860ec85b42fda2bc9efe91e9398a", func := "klister/klisterlaw06.ChipTruths", spec := "chipTruths", unfollowed := true, recurses := true, plainKeys := false, apart := false }
def ChipTruthsSaid : Prop := chipTruthsRow.holds Tryz.pinned (OpenSpec.ofChange chipTruthsSpec)

/-- ITS FALSE NEIGHBOUR: 'it returns false'. Refute it at one input. -/
def chipTruthsWrong : ChangeSpec := { name := "chipTruths", fn := fun _ => fun
  | [d1, d2, d3] => { results := [.lit (.bool false)], args := [d1, d2, d3] }
  | _ => none }
def ChipTruthsWrongFalsely : Prop := chipTruthsRow.holds Tryz.pinned (OpenSpec.ofChange chipTruthsWrong)

/-- 'klisterlaw06.ChipPlaces': WHATEVER THE INPUT: true; the input reads as it did. -/
def chipPlacesSpec : ChangeSpec := { name := "chipPlaces", fn := fun _ => fun
  | [d1, d2, d3] => { results := [.lit (.bool true)], args := [d1, d2, d3] }
  | _ => none }
def chipPlacesRow : OpenClaim := { program := "ytlnfbjphfoipaaagreat", sum := "36acceea52fa308ec641b5b1e1cdcf3b9b53860ec85b42fda2bc9efe91e9398a", func := "klister/klisterlaw06.ChipPlaces", spec := "chipPlaces", unfollowed := true, recurses := true, plainKeys := false, apart := false }
def ChipPlacesSaid : Prop := chipPlacesRow.holds Tryz.pinned (OpenSpec.ofChange chipPlacesSpec)

/-- ITS FALSE NEIGHBOUR: 'it returns false'. Refute it at one input. -/
def chipPlacesWrong : ChangeSpec := { name := "chipPlaces", fn := fun _ => fun
  | [d1, d2, d3] => { results := [.lit (.bool false)], args := [d1, d2, d3] }
  | _ => none }
def ChipPlacesWrongFalsely : Prop := chipPlacesRow.holds Tryz.pinned (OpenSpec.ofChange chipPlacesWrong)

/-- 'klisterlaw06.ChipChains': WHATEVER THE INPUT: true; the input reads as it did. -/
def chipChainsSpec : ChangeSpec := { name := "chipChains", fn := fun _ => fun
  | [d1, d2, d3, d4] => { results := [.lit (.bool true)], args := [d1, d2, d3, d4] }
  | _ => none }
def chipChainsRow : OpenClaim := { program := "ytlnfbjphfoipaaagreat", sum := "36acceea52fa308ec641b5b1e1cdcf3b9b53860ec85b42fda2bc9efe91e9398a", func := "klister/klisterlaw06.ChipChains", spec := "chipChains", unfollowed := true, recurses := true, plainKeys := false, apart := false }
def ChipChainsSaid : Prop := chipChainsRow.holds Tryz.pinned (OpenSpec.ofChange chipChainsSpec)

/-- ITS FALSE NEIGHBOUR: 'it returns false'. Refute it at one input. -/
def chipChainsWrong : ChangeSpec := { name := "chipChains", fn := fun _ => fun
  | [d1, d2, d3, d4] => { results := [.lit (.bool false)], args := [d1, d2, d3, d4] }
  | _ => none }
def ChipChainsWrongFalsely : Prop := chipChainsRow.holds Tryz.pinned (OpenSpec.ofChange chipChainsWrong)

/- THE SECOND FORM. 'bulk': how many values and letters a reading holds, each counted each time it is reached (what is shared counts as often as it is met; a slice's spare places count too). A statement '..UptoSaid' is the law's where the arguments, and the package variables that the reading takes, are together of bulk at most 1048576: NARROWER than '..Said'. Prove '..Said' where nothing that the law and all that it calls make is longer than what came in: it says more and counts as full. Else prove '..UptoSaid'. A law counts once. -/
mutual
def uptoBulk {H : Type} : DataW H → Nat
  | .lit (.string bytes) => bytes.length + 1
  | .lit _ => 1
  | .nil => 1
  | .ptr d => uptoBulk d + 1
  | .slice elems spare => uptoBulkAll elems + uptoBulkAll spare + 1
  | .agg parts => uptoBulkAll parts + 1
  | .iface _ d => uptoBulk d + 1
  | .map entries => uptoBulkEntries entries + 1
  | .held _ => 1
def uptoBulkAll {H : Type} : List (DataW H) → Nat
  | [] => 0
  | d :: r => uptoBulk d + uptoBulkAll r
def uptoBulkEntries {H : Type} : List (Lit × DataW H) → Nat
  | [] => 0
  | x :: r => uptoBulkEntry x + uptoBulkEntries r
def uptoBulkEntry {H : Type} : Lit × DataW H → Nat
  | (.string bytes, d) => bytes.length + uptoBulk d + 1
  | (_, d) => uptoBulk d + 1
 end
def uptoSmall : (H : Type) → List (DataW H) → Bool := fun _ ds => decide (uptoBulkAll ds ≤ 1048576)
def OpenSpec.upto (s : _root_.Go.ChangeSpec) : _root_.Go.OpenSpec := { _root_.Go.OpenSpec.ofChange s with cond := some uptoSmall }

/-- 'klisterlaw06.ChipRanges', WHERE WHAT IT READS IS OF BULK AT MOST 1048576: true; the input reads as it did. -/
def chipRangesUptoRow : OpenClaim := { program := "ytlnfbjphfoipaaagreat", sum := "36acceea52fa308ec641b5b1e1cdcf3b9b53860ec85b42fda2bc9efe91e9398a", func := "klister/klisterlaw06.ChipRanges", spec := "chipRanges", unfollowed := true, recurses := true, plainKeys := false, apart := false, narrowed := true }
def ChipRangesUptoSaid : Prop := chipRangesUptoRow.holds Tryz.pinned (OpenSpec.upto chipRangesSpec)

/-- 'klisterlaw06.ChipFailures', WHERE WHAT IT READS IS OF BULK AT MOST 1048576: true; the input reads as it did. -/
def chipFailuresUptoRow : OpenClaim := { program := "ytlnfbjphfoipaaagreat", sum := "36acceea52fa308ec641b5b1e1cdcf3b9b53860ec85b42fda2bc9efe91e9398a", func := "klister/klisterlaw06.ChipFailures", spec := "chipFailures", unfollowed := true, recurses := true, plainKeys := false, apart := false, narrowed := true }
def ChipFailuresUptoSaid : Prop := chipFailuresUptoRow.holds Tryz.pinned (OpenSpec.upto chipFailuresSpec)

/-- 'klisterlaw06.ChipTruths', WHERE WHAT IT READS IS OF BULK AT MOST 1048576: true; the input reads as it did. -/
def chipTruthsUptoRow : OpenClaim := { program := "ytlnfbjphfoipaaagreat", sum := "36acceea52fa308ec641b5b1e1cdcf3b9b53860ec85b42fda2bc9efe91e9398a", func := "klister/klisterlaw06.ChipTruths", spec := "chipTruths", unfollowed := true, recurses := true, plainKeys := false, apart := false, narrowed := true }
def ChipTruthsUptoSaid : Prop := chipTruthsUptoRow.holds Tryz.pinned (OpenSpec.upto chipTruthsSpec)

/-- 'klisterlaw06.ChipPlaces', WHERE WHAT IT READS IS OF BULK AT MOST 1048576: true; the input reads as it did. -/
def chipPlacesUptoRow : OpenClaim := { program := "ytlnfbjphfoipaaagreat", sum := "36acceea52fa308ec641b5b1e1cdcf3b9b53860ec85b42fda2bc9efe91e9398a", func := "klister/klisterlaw06.ChipPlaces", spec := "chipPlaces", unfollowed := true, recurses := true, plainKeys := false, apart := false, narrowed := true }
def ChipPlacesUptoSaid : Prop := chipPlacesUptoRow.holds Tryz.pinned (OpenSpec.upto chipPlacesSpec)

/-- 'klisterlaw06.ChipChains', WHERE WHAT IT READS IS OF BULK AT MOST 1048576: true; the input reads as it did. -/
def chipChainsUptoRow : OpenClaim := { program := "ytlnfbjphfoipaaagreat", sum := "36acceea52fa308ec641b5b1e1cdcf3b9b53860ec85b42fda2bc9efe91e9398a", func := "klister/klisterlaw06.ChipChains", spec := "chipChains", unfollowed := true, recurses := true, plainKeys := false, apart := false, narrowed := true }
def ChipChainsUptoSaid : Prop := chipChainsUptoRow.holds Tryz.pinned (OpenSpec.upto chipChainsSpec)

end Rows
end Go.Proofs.YtlnfbjphfoipaaaGreat
