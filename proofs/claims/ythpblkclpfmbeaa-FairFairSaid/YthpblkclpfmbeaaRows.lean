/-
  No cell of these rows narrows 'for every input' (looked for: loops, veiled, ifaces, maps, wideKeys, modest, calm, conditions, laid).
  DERIVED. THE GIVEN ROWS OF THIS SEAT. 6 by the template 'for every input the law returns true; each argument reads behind the call as it read before'; 0 by the template 'total and deterministic' (their statements: YthpblkclpfmbeaaTotals.lean).
  GIVEN WITH THE SEED: the statements are not yours to turn. If you find one false, say at which input.
  Laid BY PROGRAM, IN A SANDBOX (cutbox-rows.mjs): the forced cells as the released guide's own fill.sh prints them over the translation c36872578e472327… (all of the seat's roots in one cut). By AI agents, Wed Nov 11 2026. No macro, syntax, notation, axiom, sorry.
-/
import Derived.Test.YthpblkclpfmbeaaChecked
import GoSem.Claim
import GoSem.ClaimJoined
import GoSem.ClaimMapViews
import Derived.JoinedTies
import Derived.KernelRfl
namespace Go.Proofs.Ythpblkclpfmbeaa
/- THE CELL 'sum', in the pinned program and in every row, IS THE sha256 OF THE DUMP (.gsa) THAT YthpblkclpfmbeaaProg.lean LOADS. Nothing in Lean hashes anything: it is a label: what it is worth is what the hold of that sum in a sandbox is worth. -/
noncomputable def Try.pinned : Pinned := { name := "ythpblkclpfmbeaa", sum := "c36872578e472327bb2cbadb78234f75150364d8258a501c3707ebb159cfb98b", checked := Try.checked }
namespace Rows
def none {H : Type} : Left H := { results := [], args := [] }

/-- 'chargenetlaw10.FairShare': WHATEVER THE INPUT: true; the input reads as it did. -/
def fairShareSpec : ChangeSpec := { name := "fairShare", fn := fun _ => fun
  | [d1, d2] => { results := [.lit (.bool true)], args := [d1, d2] }
  | _ => none }
def fairShareRow : OpenClaim := { program := "ythpblkclpfmbeaa", sum := "c36872578e472327bb2cbadb78234f75150364d8258a501c3707ebb159cfb98b", func := "chargenet/chargenetlaw10.FairShare", spec := "fairShare", unfollowed := true, recurses := true, apart := false }
def FairShareSaid : Prop := fairShareRow.holds Try.pinned (OpenSpec.ofChange fairShareSpec)

/-- ITS FALSE NEIGHBOUR: 'it returns false'. Refute it at one input. -/
def fairShareWrong : ChangeSpec := { name := "fairShare", fn := fun _ => fun
  | [d1, d2] => { results := [.lit (.bool false)], args := [d1, d2] }
  | _ => none }
def FairShareWrongFalsely : Prop := fairShareRow.holds Try.pinned (OpenSpec.ofChange fairShareWrong)

/-- 'chargenetlaw10.FairCompare': WHATEVER THE INPUT: true; the input reads as it did. -/
def fairCompareSpec : ChangeSpec := { name := "fairCompare", fn := fun _ => fun
  | [d1, d2] => { results := [.lit (.bool true)], args := [d1, d2] }
  | _ => none }
def fairCompareRow : OpenClaim := { program := "ythpblkclpfmbeaa", sum := "c36872578e472327bb2cbadb78234f75150364d8258a501c3707ebb159cfb98b", func := "chargenet/chargenetlaw10.FairCompare", spec := "fairCompare", unfollowed := true, recurses := true, apart := false }
def FairCompareSaid : Prop := fairCompareRow.holds Try.pinned (OpenSpec.ofChange fairCompareSpec)

/-- ITS FALSE NEIGHBOUR: 'it returns false'. Refute it at one input. -/
def fairCompareWrong : ChangeSpec := { name := "fairCompare", fn := fun _ => fun
  | [d1, d2] => { results := [.lit (.bool false)], args := [d1, d2] }
  | _ => none }
def FairCompareWrongFalsely : Prop := fairCompareRow.holds Try.pinned (OpenSpec.ofChange fairCompareWrong)

/-- 'chargenetlaw10.FairFull': WHATEVER THE INPUT: true; the input reads as it did. -/
def fairFullSpec : ChangeSpec := { name := "fairFull", fn := fun _ => fun
  | [d1, d2] => { results := [.lit (.bool true)], args := [d1, d2] }
  | _ => none }
def fairFullRow : OpenClaim := { program := "ythpblkclpfmbeaa", sum := "c36872578e472327bb2cbadb78234f75150364d8258a501c3707ebb159cfb98b", func := "chargenet/chargenetlaw10.FairFull", spec := "fairFull", unfollowed := true, recurses := true, apart := false }
def FairFullSaid : Prop := fairFullRow.holds Try.pinned (OpenSpec.ofChange fairFullSpec)

/-- ITS FALSE NEIGHBOUR: 'it returns false'. Refute it at one input. -/
def fairFullWrong : ChangeSpec := { name := "fairFull", fn := fun _ => fun
  | [d1, d2] => { results := [.lit (.bool false)], args := [d1, d2] }
  | _ => none }
def FairFullWrongFalsely : Prop := fairFullRow.holds Try.pinned (OpenSpec.ofChange fairFullWrong)

/-- 'chargenetlaw10.FairLeast': WHATEVER THE INPUT: true; the input reads as it did. -/
def fairLeastSpec : ChangeSpec := { name := "fairLeast", fn := fun _ => fun
  | [d1, d2, d3] => { results := [.lit (.bool true)], args := [d1, d2, d3] }
  | _ => none }
def fairLeastRow : OpenClaim := { program := "ythpblkclpfmbeaa", sum := "c36872578e472327bb2cbadb78234f75150364d8258a501c3707ebb159cfb98b", func := "chargenet/chargenetlaw10.FairLeast", spec := "fairLeast", unfollowed := true, recurses := true, apart := false }
def FairLeastSaid : Prop := fairLeastRow.holds Try.pinned (OpenSpec.ofChange fairLeastSpec)

/-- ITS FALSE NEIGHBOUR: 'it returns false'. Refute it at one input. -/
def fairLeastWrong : ChangeSpec := { name := "fairLeast", fn := fun _ => fun
  | [d1, d2, d3] => { results := [.lit (.bool false)], args := [d1, d2, d3] }
  | _ => none }
def FairLeastWrongFalsely : Prop := fairLeastRow.holds Try.pinned (OpenSpec.ofChange fairLeastWrong)

/-- 'chargenetlaw10.FairFair': WHATEVER THE INPUT: true; the input reads as it did. -/
def fairFairSpec : ChangeSpec := { name := "fairFair", fn := fun _ => fun
  | [d1, d2, d3] => { results := [.lit (.bool true)], args := [d1, d2, d3] }
  | _ => none }
def fairFairRow : OpenClaim := { program := "ythpblkclpfmbeaa", sum := "c36872578e472327bb2cbadb78234f75150364d8258a501c3707ebb159cfb98b", func := "chargenet/chargenetlaw10.FairFair", spec := "fairFair", unfollowed := true, recurses := true, apart := false }
def FairFairSaid : Prop := fairFairRow.holds Try.pinned (OpenSpec.ofChange fairFairSpec)

/-- ITS FALSE NEIGHBOUR: 'it returns false'. Refute it at one input. -/
def fairFairWrong : ChangeSpec := { name := "fairFair", fn := fun _ => fun
  | [d1, d2, d3] => { results := [.lit (.bool false)], args := [d1, d2, d3] }
  | _ => none }
def FairFairWrongFalsely : Prop := fairFairRow.holds Try.pinned (OpenSpec.ofChange fairFairWrong)

/-- 'chargenetlaw10.FairSums': WHATEVER THE INPUT: true; the input reads as it did. -/
def fairSumsSpec : ChangeSpec := { name := "fairSums", fn := fun _ => fun
  | [d1, d2] => { results := [.lit (.bool true)], args := [d1, d2] }
  | _ => none }
def fairSumsRow : OpenClaim := { program := "ythpblkclpfmbeaa", sum := "c36872578e472327bb2cbadb78234f75150364d8258a501c3707ebb159cfb98b", func := "chargenet/chargenetlaw10.FairSums", spec := "fairSums", unfollowed := true, recurses := true, apart := false }
def FairSumsSaid : Prop := fairSumsRow.holds Try.pinned (OpenSpec.ofChange fairSumsSpec)

/-- ITS FALSE NEIGHBOUR: 'it returns false'. Refute it at one input. -/
def fairSumsWrong : ChangeSpec := { name := "fairSums", fn := fun _ => fun
  | [d1, d2] => { results := [.lit (.bool false)], args := [d1, d2] }
  | _ => none }
def FairSumsWrongFalsely : Prop := fairSumsRow.holds Try.pinned (OpenSpec.ofChange fairSumsWrong)

/- THE SECOND FORM. 'bulk': how many values and letters a reading holds, each counted each time it is reached (what is shared counts as often as it is met; a slice's spare places count too). A statement '..UptoSaid' is the law's where the arguments, and the package variables that the reading takes, are together of bulk at most 1048576: NARROWER than '..Said'. Prove '..Said' where nothing that the law and all that it calls make is longer than what came in: it says more and counts as full. Else prove '..UptoSaid'. A law counts once. -/
mutual
def uptoBulk {H : Type} : DataW H → Nat
  | .lit (.string bytes) => bytes.length + 1
  | .lit _ => 1
  | .nil => 1
  | .ptr d => uptoBulk d + 1
  | .slice elems spare => uptoBulkAll elems + uptoBulkAll spare + 1
  | .agg parts => uptoBulkAll parts + 1
  | .iface _ d => uptoBulk d + 1
  | .map entries => uptoBulkEntries entries + 1
  | .held _ => 1
def uptoBulkAll {H : Type} : List (DataW H) → Nat
  | [] => 0
  | d :: r => uptoBulk d + uptoBulkAll r
def uptoBulkEntries {H : Type} : List (Lit × DataW H) → Nat
  | [] => 0
  | x :: r => uptoBulkEntry x + uptoBulkEntries r
def uptoBulkEntry {H : Type} : Lit × DataW H → Nat
  | (.string bytes, d) => bytes.length + uptoBulk d + 1
  | (_, d) => uptoBulk d + 1
 end
def uptoSmall : (H : Type) → List (DataW H) → Bool := fun _ ds => decide (uptoBulkAll ds ≤ 1048576)
def OpenSpec.upto (s : _root_.Go.ChangeSpec) : _root_.Go.OpenSpec := { _root_.Go.OpenSpec.ofChange s with cond := some uptoSmall }

/-- 'chargenetlaw10.FairShare', WHERE WHAT IT READS IS OF BULK AT MOST 1048576: true; the input reads as it did. -/
def fairShareUptoRow : OpenClaim := { program := "ythpblkclpfmbeaa", sum := "c36872578e472327bb2cbadb78234f75150364d8258a501c3707ebb159cfb98b", func := "chargenet/chargenetlaw10.FairShare", spec := "fairShare", unfollowed := true, recurses := true, apart := false, narrowed := true }
def FairShareUptoSaid : Prop := fairShareUptoRow.holds Try.pinned (OpenSpec.upto fairShareSpec)

/-- 'chargenetlaw10.FairCompare', WHERE WHAT IT READS IS OF BULK AT MOST 1048576: true; the input reads as it did. -/
def fairCompareUptoRow : OpenClaim := { program := "ythpblkclpfmbeaa", sum := "c36872578e472327bb2cbadb78234f75150364d8258a501c3707ebb159cfb98b", func := "chargenet/chargenetlaw10.FairCompare", spec := "fairCompare", unfollowed := true, recurses := true, apart := false, narrowed := true }
def FairCompareUptoSaid : Prop := fairCompareUptoRow.holds Try.pinned (OpenSpec.upto fairCompareSpec)

/-- 'chargenetlaw10.FairFull', WHERE WHAT IT READS IS OF BULK AT MOST 1048576: true; the input reads as it did. -/
def fairFullUptoRow : OpenClaim := { program := "ythpblkclpfmbeaa", sum := "c36872578e472327bb2cbadb78234f75150364d8258a501c3707ebb159cfb98b", func := "chargenet/chargenetlaw10.FairFull", spec := "fairFull", unfollowed := true, recurses := true, apart := false, narrowed := true }
def FairFullUptoSaid : Prop := fairFullUptoRow.holds Try.pinned (OpenSpec.upto fairFullSpec)

/-- 'chargenetlaw10.FairLeast', WHERE WHAT IT READS IS OF BULK AT MOST 1048576: true; the input reads as it did. -/
def fairLeastUptoRow : OpenClaim := { program := "ythpblkclpfmbeaa", sum := "c36872578e472327bb2cbadb78234f75150364d8258a501c3707ebb159cfb98b", func := "chargenet/chargenetlaw10.FairLeast", spec := "fairLeast", unfollowed := true, recurses := true, apart := false, narrowed := true }
def FairLeastUptoSaid : Prop := fairLeastUptoRow.holds Try.pinned (OpenSpec.upto fairLeastSpec)

/-- 'chargenetlaw10.FairFair', WHERE WHAT IT READS IS OF BULK AT MOST 1048576: true; the input reads as it did. -/
def fairFairUptoRow : OpenClaim := { program := "ythpblkclpfmbeaa", sum := "c36872578e472327bb2cbadb78234f75150364d8258a501c3707ebb159cfb98b", func := "chargenet/chargenetlaw10.FairFair", spec := "fairFair", unfollowed := true, recurses := true, apart := false, narrowed := true }
def FairFairUptoSaid : Prop := fairFairUptoRow.holds Try.pinned (OpenSpec.upto fairFairSpec)

/-- 'chargenetlaw10.FairSums', WHERE WHAT IT READS IS OF BULK AT MOST 1048576: true; the input reads as it did. -/
def fairSumsUptoRow : OpenClaim := { program := "ythpblkclpfmbeaa", sum := "c36872578e472327bb2cbadb78234f75150364d8258a501c3707ebb159cfb98b", func := "chargenet/chargenetlaw10.FairSums", spec := "fairSums", unfollowed := true, recurses := true, apart := false, narrowed := true }
def FairSumsUptoSaid : Prop := fairSumsUptoRow.holds Try.pinned (OpenSpec.upto fairSumsSpec)

end Rows
end Go.Proofs.Ythpblkclpfmbeaa
