/-
  No cell of these rows narrows 'for every input' (looked for: loops, veiled, ifaces, maps, wideKeys, modest, calm, conditions, laid).
  DERIVED. THE GIVEN ROWS OF THIS SEAT. 5 by the template 'for every input the law returns true; each argument reads behind the call as it read before'; 0 by the template 'total and deterministic' (their statements: YtlnfbjphfoipaaaTotals.lean).
  GIVEN WITH THE SEED: the statements are not yours to turn. If you find one false, say at which input.
  Laid BY PROGRAM, IN A SANDBOX (cutbox-rows.mjs): the forced cells as the released guide's own fill.sh prints them over the translation 3dfd843e4bcb7969… (all of the seat's roots in one cut). By AI agents, Wed Nov 11 2026. No macro, syntax, notation, axiom, sorry.
-/
import Derived.Test.YtlnfbjphfoipaaaChecked
import GoSem.Claim
import GoSem.ClaimJoined
import GoSem.ClaimMapViews
import Derived.JoinedTies
import Derived.KernelRfl
namespace Go.Proofs.Ytlnfbjphfoipaaa
/- THE CELL 'sum', in the pinned program and in every row, IS THE sha256 OF THE DUMP (.gsa) THAT YtlnfbjphfoipaaaProg.lean LOADS. Nothing in Lean hashes anything: it is a label: what it is worth is what the hold of that sum in a sandbox is worth. -/
noncomputable def Try.pinned : Pinned := { name := "ytlnfbjphfoipaaa", sum := "3dfd843e4bcb796964f10ebc05e936f921a5cefaa73536d5fb504b444dfbec9f", checked := Try.checked }
namespace Rows
def none {H : Type} : Left H := { results := [], args := [] }

/-- 'klisterlaw06.ChipNamed': WHATEVER THE INPUT: true; the input reads as it did. -/
def chipNamedSpec : ChangeSpec := { name := "chipNamed", fn := fun _ => fun
  | [d1, d2, d3, d4] => { results := [.lit (.bool true)], args := [d1, d2, d3, d4] }
  | _ => none }
def chipNamedRow : OpenClaim := { program := "ytlnfbjphfoipaaa", sum := "3dfd843e4bcb796964f10ebc05e936f921a5cefaa73536d5fb504b444dfbec9f", func := "klister/klisterlaw06.ChipNamed", spec := "chipNamed", unfollowed := true, recurses := true, plainKeys := false, apart := false }
def ChipNamedSaid : Prop := chipNamedRow.holds Try.pinned (OpenSpec.ofChange chipNamedSpec)

/-- ITS FALSE NEIGHBOUR: 'it returns false'. Refute it at one input. -/
def chipNamedWrong : ChangeSpec := { name := "chipNamed", fn := fun _ => fun
  | [d1, d2, d3, d4] => { results := [.lit (.bool false)], args := [d1, d2, d3, d4] }
  | _ => none }
def ChipNamedWrongFalsely : Prop := chipNamedRow.holds Try.pinned (OpenSpec.ofChange chipNamedWrong)

/-- 'klisterlaw06.ChipPlaced': WHATEVER THE INPUT: true; the input reads as it did. -/
def chipPlacedSpec : ChangeSpec := { name := "chipPlaced", fn := fun _ => fun
  | [d1, d2] => { results := [.lit (.bool true)], args := [d1, d2] }
  | _ => none }
def chipPlacedRow : OpenClaim := { program := "ytlnfbjphfoipaaa", sum := "3dfd843e4bcb796964f10ebc05e936f921a5cefaa73536d5fb504b444dfbec9f", func := "klister/klisterlaw06.ChipPlaced", spec := "chipPlaced", unfollowed := true, recurses := true, plainKeys := false, apart := false }
def ChipPlacedSaid : Prop := chipPlacedRow.holds Try.pinned (OpenSpec.ofChange chipPlacedSpec)

/-- ITS FALSE NEIGHBOUR: 'it returns false'. Refute it at one input. -/
def chipPlacedWrong : ChangeSpec := { name := "chipPlaced", fn := fun _ => fun
  | [d1, d2] => { results := [.lit (.bool false)], args := [d1, d2] }
  | _ => none }
def ChipPlacedWrongFalsely : Prop := chipPlacedRow.holds Try.pinned (OpenSpec.ofChange chipPlacedWrong)

/-- 'klisterlaw06.ChipRefuted': WHATEVER THE INPUT: true; the input reads as it did. -/
def chipRefutedSpec : ChangeSpec := { name := "chipRefuted", fn := fun _ => fun
  | [d1, d2, d3] => { results := [.lit (.bool true)], args := [d1, d2, d3] }
  | _ => none }
def chipRefutedRow : OpenClaim := { program := "ytlnfbjphfoipaaa", sum := "3dfd843e4bcb796964f10ebc05e936f921a5cefaa73536d5fb504b444dfbec9f", func := "klister/klisterlaw06.ChipRefuted", spec := "chipRefuted", unfollowed := true, recurses := true, plainKeys := false, apart := false }
def ChipRefutedSaid : Prop := chipRefutedRow.holds Try.pinned (OpenSpec.ofChange chipRefutedSpec)

/-- ITS FALSE NEIGHBOUR: 'it returns false'. Refute it at one input. -/
def chipRefutedWrong : ChangeSpec := { name := "chipRefuted", fn := fun _ => fun
  | [d1, d2, d3] => { results := [.lit (.bool false)], args := [d1, d2, d3] }
  | _ => none }
def ChipRefutedWrongFalsely : Prop := chipRefutedRow.holds Try.pinned (OpenSpec.ofChange chipRefutedWrong)

/-- 'klisterlaw06.ChipMore': WHATEVER THE INPUT: true; the input reads as it did. -/
def chipMoreSpec : ChangeSpec := { name := "chipMore", fn := fun _ => fun
  | [d1, d2] => { results := [.lit (.bool true)], args := [d1, d2] }
  | _ => none }
def chipMoreRow : OpenClaim := { program := "ytlnfbjphfoipaaa", sum := "3dfd843e4bcb796964f10ebc05e936f921a5cefaa73536d5fb504b444dfbec9f", func := "klister/klisterlaw06.ChipMore", spec := "chipMore", unfollowed := true, recurses := true, plainKeys := false, apart := false }
def ChipMoreSaid : Prop := chipMoreRow.holds Try.pinned (OpenSpec.ofChange chipMoreSpec)

/-- ITS FALSE NEIGHBOUR: 'it returns false'. Refute it at one input. -/
def chipMoreWrong : ChangeSpec := { name := "chipMore", fn := fun _ => fun
  | [d1, d2] => { results := [.lit (.bool false)], args := [d1, d2] }
  | _ => none }
def ChipMoreWrongFalsely : Prop := chipMoreRow.holds Try.pinned (OpenSpec.ofChange chipMoreWrong)

/-- 'klisterlaw06.ChipReached': WHATEVER THE INPUT: true; the input reads as it did. -/
def chipReachedSpec : ChangeSpec := { name := "chipReached", fn := fun _ => fun
  | [d1, d2] => { results := [.lit (.bool true)], args := [d1, d2] }
  | _ => none }
def chipReachedRow : OpenClaim := { program := "ytlnfbjphfoipaaa", sum := "3dfd843e4bcb796964f10ebc05e936f921a5cefaa73536d5fb504b444dfbec9f", func := "klister/klisterlaw06.ChipReached", spec := "chipReached", unfollowed := true, recurses := true, plainKeys := false, apart := false }
def ChipReachedSaid : Prop := chipReachedRow.holds Try.pinned (OpenSpec.ofChange chipReachedSpec)

/-- ITS FALSE NEIGHBOUR: 'it returns false'. Refute it at one input. -/
def chipReachedWrong : ChangeSpec := { name := "chipReached", fn := fun _ => fun
  | [d1, d2] => { results := [.lit (.bool false)], args := [d1, d2] }
  | _ => none }
def ChipReachedWrongFalsely : Prop := chipReachedRow.holds Try.pinned (OpenSpec.ofChange chipReachedWrong)

/- THE SECOND FORM. 'bulk': how many values and letters a reading holds, each counted each time it is reached (what is shared counts as often as it is met; a slice's spare places count too). A statement '..UptoSaid' is the law's where the arguments, and the package variables that the reading takes, are together of bulk at most 1048576: NARROWER than '..Said'. Prove '..Said' where nothing that the law and all that it calls make is longer than what came in: it says more and counts as full. Else prove '..UptoSaid'. A law counts once. -/
mutual
def uptoBulk {H : Type} : DataW H → Nat
  | .lit (.string bytes) => bytes.length + 1
  | .lit _ => 1
  | .nil => 1
  | .ptr d => uptoBulk d + 1
  | .slice elems spare => uptoBulkAll elems + uptoBulkAll spare + 1
  | .agg parts => uptoBulkAll parts + 1
  | .iface _ d => uptoBulk d + 1
  | .map entries => uptoBulkEntries entries + 1
  | .held _ => 1
def uptoBulkAll {H : Type} : List (DataW H) → Nat
  | [] => 0
  | d :: r => uptoBulk d + uptoBulkAll r
def uptoBulkEntries {H : Type} : List (Lit × DataW H) → Nat
  | [] => 0
  | x :: r => uptoBulkEntry x + uptoBulkEntries r
def uptoBulkEntry {H : Type} : Lit × DataW H → Nat
  | (.string bytes, d) => bytes.length + uptoBulk d + 1
  | (_, d) => uptoBulk d + 1
 end
def uptoSmall : (H : Type) → List (DataW H) → Bool := fun _ ds => decide (uptoBulkAll ds ≤ 1048576)
def OpenSpec.upto (s : _root_.Go.ChangeSpec) : _root_.Go.OpenSpec := { _root_.Go.OpenSpec.ofChange s with cond := some uptoSmall }

/-- 'klisterlaw06.ChipNamed', WHERE WHAT IT READS IS OF BULK AT MOST 1048576: true; the input reads as it did. -/
def chipNamedUptoRow : OpenClaim := { program := "ytlnfbjphfoipaaa", sum := "3dfd843e4bcb796964f10ebc05e936f921a5cefaa73536d5fb504b444dfbec9f", func := "klister/klisterlaw06.ChipNamed", spec := "chipNamed", unfollowed := true, recurses := true, plainKeys := false, apart := false, narrowed := true }
def ChipNamedUptoSaid : Prop := chipNamedUptoRow.holds Try.pinned (OpenSpec.upto chipNamedSpec)

/-- 'klisterlaw06.ChipPlaced', WHERE WHAT IT READS IS OF BULK AT MOST 1048576: true; the input reads as it did. -/
def chipPlacedUptoRow : OpenClaim := { program := "ytlnfbjphfoipaaa", sum := "3dfd843e4bcb796964f10ebc05e936f921a5cefaa73536d5fb504b444dfbec9f", func := "klister/klisterlaw06.ChipPlaced", spec := "chipPlaced", unfollowed := true, recurses := true, plainKeys := false, apart := false, narrowed := true }
def ChipPlacedUptoSaid : Prop := chipPlacedUptoRow.holds Try.pinned (OpenSpec.upto chipPlacedSpec)

/-- 'klisterlaw06.ChipRefuted', WHERE WHAT IT READS IS OF BULK AT MOST 1048576: true; the input reads as it did. -/
def chipRefutedUptoRow : OpenClaim := { program := "ytlnfbjphfoipaaa", sum := "3dfd843e4bcb796964f10ebc05e936f921a5cefaa73536d5fb504b444dfbec9f", func := "klister/klisterlaw06.ChipRefuted", spec := "chipRefuted", unfollowed := true, recurses := true, plainKeys := false, apart := false, narrowed := true }
def ChipRefutedUptoSaid : Prop := chipRefutedUptoRow.holds Try.pinned (OpenSpec.upto chipRefutedSpec)

/-- 'klisterlaw06.ChipMore', WHERE WHAT IT READS IS OF BULK AT MOST 1048576: true; the input reads as it did. -/
def chipMoreUptoRow : OpenClaim := { program := "ytlnfbjphfoipaaa", sum := "3dfd843e4bcb796964f10ebc05e936f921a5cefaa73536d5fb504b444dfbec9f", func := "klister/klisterlaw06.ChipMore", spec := "chipMore", unfollowed := true, recurses := true, plainKeys := false, apart := false, narrowed := true }
def ChipMoreUptoSaid : Prop := chipMoreUptoRow.holds Try.pinned (OpenSpec.upto chipMoreSpec)

/-- 'klisterlaw06.ChipReached', WHERE WHAT IT READS IS OF BULK AT MOST 1048576: true; the input reads as it did. -/
def chipReachedUptoRow : OpenClaim := { program := "ytlnfbjphfoipaaa", sum := "3dfd843e4bcb796964f10ebc05e936f921a5cefaa73536d5fb504b444dfbec9f", func := "klister/klisterlaw06.ChipReached", spec := "chipReached", unfollowed := true, recurses := true, plainKeys := false, apart := false, narrowed := true }
def ChipReachedUptoSaid : Prop := chipReachedUptoRow.holds Try.pinned (OpenSpec.upto chipReachedSpec)

end Rows
end Go.Proofs.Ytlnfbjphfoipaaa
