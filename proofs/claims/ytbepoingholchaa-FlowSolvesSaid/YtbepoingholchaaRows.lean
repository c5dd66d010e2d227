/-
  No cell of these rows narrows 'for every input' (looked for: loops, veiled, ifaces, maps, wideKeys, modest, calm, conditions, laid).
  DERIVED. THE GIVEN ROWS OF THIS SEAT. 8 by the template 'for every input the law returns true; each argument reads behind the call as it read before'; 0 by the template 'total and deterministic' (their statements: YtbepoingholchaaTotals.lean).
  GIVEN WITH THE SEED: the statements are not yours to turn. If you find one false, say at which input.
  Laid BY PROGRAM, IN A SANDBOX (cutbox-rows.mjs): the forced cells as the released guide's own fill.sh prints them over the translation 31229175c1e156c8… (all of the seat's roots in one cut). By AI agents, Wed Nov 11 2026. No macro, syntax, notation, axiom, sorry.
-/
import Derived.Test.YtbepoingholchaaChecked
import GoSem.Claim
import GoSem.ClaimJoined
import GoSem.ClaimMapViews
import Derived.JoinedTies
import Derived.KernelRfl
namespace Go.Proofs.Ytbepoingholchaa
/- THE CELL 'sum', in the pinned program and in every row, IS THE sha256 OF THE DUMP (.gsa) THAT YtbepoingholchaaProg.lean LOADS. Nothing in Lean hashes anything: it is a label: what it is worth is what the hold of that sum in a sandbox is worth. -/
noncomputable def Try.pinned : Pinned := { name := "ytbepoingholchaa", sum := "31229175c1e156c80722bdb9d24c987fe9ff527b9105e62ff7f07b9c54e5a6f4", checked := Try.checked }
namespace Rows
def none {H : Type} : Left H := { results := [], args := [] }

/-- 'chargenetlaw09.FlowValids': WHATEVER THE INPUT: true; the input reads as it did. -/
def flowValidsSpec : ChangeSpec := { name := "flowValids", fn := fun _ => fun
  | [d] => { results := [.lit (.bool true)], args := [d] }
  | _ => none }
def flowValidsRow : OpenClaim := { program := "ytbepoingholchaa", sum := "31229175c1e156c80722bdb9d24c987fe9ff527b9105e62ff7f07b9c54e5a6f4", func := "chargenet/chargenetlaw09.FlowValids", spec := "flowValids", recurses := true, apart := false }
def FlowValidsSaid : Prop := flowValidsRow.holds Try.pinned (OpenSpec.ofChange flowValidsSpec)

/-- ITS FALSE NEIGHBOUR: 'it returns false'. Refute it at one input. -/
def flowValidsWrong : ChangeSpec := { name := "flowValids", fn := fun _ => fun
  | [d] => { results := [.lit (.bool false)], args := [d] }
  | _ => none }
def FlowValidsWrongFalsely : Prop := flowValidsRow.holds Try.pinned (OpenSpec.ofChange flowValidsWrong)

/-- 'chargenetlaw09.FlowMaxes': WHATEVER THE INPUT: true; the input reads as it did. -/
def flowMaxesSpec : ChangeSpec := { name := "flowMaxes", fn := fun _ => fun
  | [d1, d2, d3] => { results := [.lit (.bool true)], args := [d1, d2, d3] }
  | _ => none }
def flowMaxesRow : OpenClaim := { program := "ytbepoingholchaa", sum := "31229175c1e156c80722bdb9d24c987fe9ff527b9105e62ff7f07b9c54e5a6f4", func := "chargenet/chargenetlaw09.FlowMaxes", spec := "flowMaxes", recurses := true, apart := false }
def FlowMaxesSaid : Prop := flowMaxesRow.holds Try.pinned (OpenSpec.ofChange flowMaxesSpec)

/-- ITS FALSE NEIGHBOUR: 'it returns false'. Refute it at one input. -/
def flowMaxesWrong : ChangeSpec := { name := "flowMaxes", fn := fun _ => fun
  | [d1, d2, d3] => { results := [.lit (.bool false)], args := [d1, d2, d3] }
  | _ => none }
def FlowMaxesWrongFalsely : Prop := flowMaxesRow.holds Try.pinned (OpenSpec.ofChange flowMaxesWrong)

/-- 'chargenetlaw09.FlowCuts': WHATEVER THE INPUT: true; the input reads as it did. -/
def flowCutsSpec : ChangeSpec := { name := "flowCuts", fn := fun _ => fun
  | [d1, d2, d3] => { results := [.lit (.bool true)], args := [d1, d2, d3] }
  | _ => none }
def flowCutsRow : OpenClaim := { program := "ytbepoingholchaa", sum := "31229175c1e156c80722bdb9d24c987fe9ff527b9105e62ff7f07b9c54e5a6f4", func := "chargenet/chargenetlaw09.FlowCuts", spec := "flowCuts", recurses := true, apart := false }
def FlowCutsSaid : Prop := flowCutsRow.holds Try.pinned (OpenSpec.ofChange flowCutsSpec)

/-- ITS FALSE NEIGHBOUR: 'it returns false'. Refute it at one input. -/
def flowCutsWrong : ChangeSpec := { name := "flowCuts", fn := fun _ => fun
  | [d1, d2, d3] => { results := [.lit (.bool false)], args := [d1, d2, d3] }
  | _ => none }
def FlowCutsWrongFalsely : Prop := flowCutsRow.holds Try.pinned (OpenSpec.ofChange flowCutsWrong)

/-- 'chargenetlaw09.FlowSolves': WHATEVER THE INPUT: true; the input reads as it did. -/
def flowSolvesSpec : ChangeSpec := { name := "flowSolves", fn := fun _ => fun
  | [d1, d2, d3] => { results := [.lit (.bool true)], args := [d1, d2, d3] }
  | _ => none }
def flowSolvesRow : OpenClaim := { program := "ytbepoingholchaa", sum := "31229175c1e156c80722bdb9d24c987fe9ff527b9105e62ff7f07b9c54e5a6f4", func := "chargenet/chargenetlaw09.FlowSolves", spec := "flowSolves", recurses := true, apart := false }
def FlowSolvesSaid : Prop := flowSolvesRow.holds Try.pinned (OpenSpec.ofChange flowSolvesSpec)

/-- ITS FALSE NEIGHBOUR: 'it returns false'. Refute it at one input. -/
def flowSolvesWrong : ChangeSpec := { name := "flowSolves", fn := fun _ => fun
  | [d1, d2, d3] => { results := [.lit (.bool false)], args := [d1, d2, d3] }
  | _ => none }
def FlowSolvesWrongFalsely : Prop := flowSolvesRow.holds Try.pinned (OpenSpec.ofChange flowSolvesWrong)

/-- 'chargenetlaw09.FlowChecks': WHATEVER THE INPUT: true; the input reads as it did. -/
def flowChecksSpec : ChangeSpec := { name := "flowChecks", fn := fun _ => fun
  | [d] => { results := [.lit (.bool true)], args := [d] }
  | _ => none }
def flowChecksRow : OpenClaim := { program := "ytbepoingholchaa", sum := "31229175c1e156c80722bdb9d24c987fe9ff527b9105e62ff7f07b9c54e5a6f4", func := "chargenet/chargenetlaw09.FlowChecks", spec := "flowChecks", recurses := true, apart := false }
def FlowChecksSaid : Prop := flowChecksRow.holds Try.pinned (OpenSpec.ofChange flowChecksSpec)

/-- ITS FALSE NEIGHBOUR: 'it returns false'. Refute it at one input. -/
def flowChecksWrong : ChangeSpec := { name := "flowChecks", fn := fun _ => fun
  | [d] => { results := [.lit (.bool false)], args := [d] }
  | _ => none }
def FlowChecksWrongFalsely : Prop := flowChecksRow.holds Try.pinned (OpenSpec.ofChange flowChecksWrong)

/-- 'chargenetlaw09.FlowBounds': WHATEVER THE INPUT: true; the input reads as it did. -/
def flowBoundsSpec : ChangeSpec := { name := "flowBounds", fn := fun _ => fun
  | [d1, d2, d3, d4] => { results := [.lit (.bool true)], args := [d1, d2, d3, d4] }
  | _ => none }
def flowBoundsRow : OpenClaim := { program := "ytbepoingholchaa", sum := "31229175c1e156c80722bdb9d24c987fe9ff527b9105e62ff7f07b9c54e5a6f4", func := "chargenet/chargenetlaw09.FlowBounds", spec := "flowBounds", recurses := true, apart := false }
def FlowBoundsSaid : Prop := flowBoundsRow.holds Try.pinned (OpenSpec.ofChange flowBoundsSpec)

/-- ITS FALSE NEIGHBOUR: 'it returns false'. Refute it at one input. -/
def flowBoundsWrong : ChangeSpec := { name := "flowBounds", fn := fun _ => fun
  | [d1, d2, d3, d4] => { results := [.lit (.bool false)], args := [d1, d2, d3, d4] }
  | _ => none }
def FlowBoundsWrongFalsely : Prop := flowBoundsRow.holds Try.pinned (OpenSpec.ofChange flowBoundsWrong)

/-- 'chargenetlaw09.FlowTurns': WHATEVER THE INPUT: true; the input reads as it did. -/
def flowTurnsSpec : ChangeSpec := { name := "flowTurns", fn := fun _ => fun
  | [d1, d2, d3] => { results := [.lit (.bool true)], args := [d1, d2, d3] }
  | _ => none }
def flowTurnsRow : OpenClaim := { program := "ytbepoingholchaa", sum := "31229175c1e156c80722bdb9d24c987fe9ff527b9105e62ff7f07b9c54e5a6f4", func := "chargenet/chargenetlaw09.FlowTurns", spec := "flowTurns", recurses := true, apart := false }
def FlowTurnsSaid : Prop := flowTurnsRow.holds Try.pinned (OpenSpec.ofChange flowTurnsSpec)

/-- ITS FALSE NEIGHBOUR: 'it returns false'. Refute it at one input. -/
def flowTurnsWrong : ChangeSpec := { name := "flowTurns", fn := fun _ => fun
  | [d1, d2, d3] => { results := [.lit (.bool false)], args := [d1, d2, d3] }
  | _ => none }
def FlowTurnsWrongFalsely : Prop := flowTurnsRow.holds Try.pinned (OpenSpec.ofChange flowTurnsWrong)

/-- 'chargenetlaw09.FlowGrows': WHATEVER THE INPUT: true; the input reads as it did. -/
def flowGrowsSpec : ChangeSpec := { name := "flowGrows", fn := fun _ => fun
  | [d1, d2, d3, d4, d5] => { results := [.lit (.bool true)], args := [d1, d2, d3, d4, d5] }
  | _ => none }
def flowGrowsRow : OpenClaim := { program := "ytbepoingholchaa", sum := "31229175c1e156c80722bdb9d24c987fe9ff527b9105e62ff7f07b9c54e5a6f4", func := "chargenet/chargenetlaw09.FlowGrows", spec := "flowGrows", recurses := true, apart := false }
def FlowGrowsSaid : Prop := flowGrowsRow.holds Try.pinned (OpenSpec.ofChange flowGrowsSpec)

/-- ITS FALSE NEIGHBOUR: 'it returns false'. Refute it at one input. -/
def flowGrowsWrong : ChangeSpec := { name := "flowGrows", fn := fun _ => fun
  | [d1, d2, d3, d4, d5] => { results := [.lit (.bool false)], args := [d1, d2, d3, d4, d5] }
  | _ => none }
def FlowGrowsWrongFalsely : Prop := flowGrowsRow.holds Try.pinned (OpenSpec.ofChange flowGrowsWrong)

/- THE SECOND FORM. 'bulk': how many values and letters a reading holds, each counted each time it is reached (what is shared counts as often as it is met; a slice's spare places count too). A statement '..UptoSaid' is the law's where the arguments, and the package variables that the reading takes, are together of bulk at most 1048576: NARROWER than '..Said'. Prove '..Said' where nothing that the law and all that it calls make is longer than what came in: it says more and counts as full. Else prove '..UptoSaid'. A law counts once. -/
mutual
def uptoBulk {H : Type} : DataW H → Nat
  | .lit (.string bytes) => bytes.length + 1
  | .lit _ => 1
  | .nil => 1
  | .ptr d => uptoBulk d + 1
  | .slice elems spare => uptoBulkAll elems + uptoBulkAll spare + 1
  | .agg parts => uptoBulkAll parts + 1
  | .iface _ d => uptoBulk d + 1
  | .map entries => uptoBulkEntries entries + 1
  | .held _ => 1
def uptoBulkAll {H : Type} : List (DataW H) → Nat
  | [] => 0
  | d :: r => uptoBulk d + uptoBulkAll r
def uptoBulkEntries {H : Type} : List (Lit × DataW H) → Nat
  | [] => 0
  | x :: r => uptoBulkEntry x + uptoBulkEntries r
def uptoBulkEntry {H : Type} : Lit × DataW H → Nat
  | (.string bytes, d) => bytes.length + uptoBulk d + 1
  | (_, d) => uptoBulk d + 1
 end
def uptoSmall : (H : Type) → List (DataW H) → Bool := fun _ ds => decide (uptoBulkAll ds ≤ 1048576)
def OpenSpec.upto (s : _root_.Go.ChangeSpec) : _root_.Go.OpenSpec := { _root_.Go.OpenSpec.ofChange s with cond := some uptoSmall }

/-- 'chargenetlaw09.FlowValids', WHERE WHAT IT READS IS OF BULK AT MOST 1048576: true; the input reads as it did. -/
def flowValidsUptoRow : OpenClaim := { program := "ytbepoingholchaa", sum := "31229175c1e156c80722bdb9d24c987fe9ff527b9105e62ff7f07b9c54e5a6f4", func := "chargenet/chargenetlaw09.FlowValids", spec := "flowValids", recurses := true, apart := false, narrowed := true }
def FlowValidsUptoSaid : Prop := flowValidsUptoRow.holds Try.pinned (OpenSpec.upto flowValidsSpec)

/-- 'chargenetlaw09.FlowMaxes', WHERE WHAT IT READS IS OF BULK AT MOST 1048576: true; the input reads as it did. -/
def flowMaxesUptoRow : OpenClaim := { program := "ytbepoingholchaa", sum := "31229175c1e156c80722bdb9d24c987fe9ff527b9105e62ff7f07b9c54e5a6f4", func := "chargenet/chargenetlaw09.FlowMaxes", spec := "flowMaxes", recurses := true, apart := false, narrowed := true }
def FlowMaxesUptoSaid : Prop := flowMaxesUptoRow.holds Try.pinned (OpenSpec.upto flowMaxesSpec)

/-- 'chargenetlaw09.FlowCuts', WHERE WHAT IT READS IS OF BULK AT MOST 1048576: true; the input reads as it did. -/
def flowCutsUptoRow : OpenClaim := { program := "ytbepoingholchaa", sum := "31229175c1e156c80722bdb9d24c987fe9ff527b9105e62ff7f07b9c54e5a6f4", func := "chargenet/chargenetlaw09.FlowCuts", spec := "flowCuts", recurses := true, apart := false, narrowed := true }
def FlowCutsUptoSaid : Prop := flowCutsUptoRow.holds Try.pinned (OpenSpec.upto flowCutsSpec)

/-- 'chargenetlaw09.FlowSolves', WHERE WHAT IT READS IS OF BULK AT MOST 1048576: true; the input reads as it did. -/
def flowSolvesUptoRow : OpenClaim := { program := "ytbepoingholchaa", sum := "31229175c1e156c80722bdb9d24c987fe9ff527b9105e62ff7f07b9c54e5a6f4", func := "chargenet/chargenetlaw09.FlowSolves", spec := "flowSolves", recurses := true, apart := false, narrowed := true }
def FlowSolvesUptoSaid : Prop := flowSolvesUptoRow.holds Try.pinned (OpenSpec.upto flowSolvesSpec)

/-- 'chargenetlaw09.FlowChecks', WHERE WHAT IT READS IS OF BULK AT MOST 1048576: true; the input reads as it did. -/
def flowChecksUptoRow : OpenClaim := { program := "ytbepoingholchaa", sum := "31229175c1e156c80722bdb9d24c987fe9ff527b9105e62ff7f07b9c54e5a6f4", func := "chargenet/chargenetlaw09.FlowChecks", spec := "flowChecks", recurses := true, apart := false, narrowed := true }
def FlowChecksUptoSaid : Prop := flowChecksUptoRow.holds Try.pinned (OpenSpec.upto flowChecksSpec)

/-- 'chargenetlaw09.FlowBounds', WHERE WHAT IT READS IS OF BULK AT MOST 1048576: true; the input reads as it did. -/
def flowBoundsUptoRow : OpenClaim := { program := "ytbepoingholchaa", sum := "31229175c1e156c80722bdb9d24c987fe9ff527b9105e62ff7f07b9c54e5a6f4", func := "chargenet/chargenetlaw09.FlowBounds", spec := "flowBounds", recurses := true, apart := false, narrowed := true }
def FlowBoundsUptoSaid : Prop := flowBoundsUptoRow.holds Try.pinned (OpenSpec.upto flowBoundsSpec)

/-- 'chargenetlaw09.FlowTurns', WHERE WHAT IT READS IS OF BULK AT MOST 1048576: true; the input reads as it did. -/
def flowTurnsUptoRow : OpenClaim := { program := "ytbepoingholchaa", sum := "31229175c1e156c80722bdb9d24c987fe9ff527b9105e62ff7f07b9c54e5a6f4", func := "chargenet/chargenetlaw09.FlowTurns", spec := "flowTurns", recurses := true, apart := false, narrowed := true }
def FlowTurnsUptoSaid : Prop := flowTurnsUptoRow.holds Try.pinned (OpenSpec.upto flowTurnsSpec)

/-- 'chargenetlaw09.FlowGrows', WHERE WHAT IT READS IS OF BULK AT MOST 1048576: true; the input reads as it did. -/
def flowGrowsUptoRow : OpenClaim := { program := "ytbepoingholchaa", sum := "31229175c1e156c80722bdb9d24c987fe9ff527b9105e62ff7f07b9c54e5a6f4", func := "chargenet/chargenetlaw09.FlowGrows", spec := "flowGrows", recurses := true, apart := false, narrowed := true }
def FlowGrowsUptoSaid : Prop := flowGrowsUptoRow.holds Try.pinned (OpenSpec.upto flowGrowsSpec)

end Rows
end Go.Proofs.Ytbepoingholchaa
