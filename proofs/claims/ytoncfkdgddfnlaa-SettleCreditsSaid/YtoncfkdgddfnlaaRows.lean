/-
  No cell of these rows narrows 'for every input' (looked for: loops, veiled, ifaces, maps, wideKeys, modest, calm, conditions, laid).
  DERIVED. THE GIVEN ROWS OF THIS SEAT. 5 by the template 'for every input the law returns true; each argument reads behind the call as it read before'; 0 by the template 'total and deterministic' (their statements: YtoncfkdgddfnlaaTotals.lean).
  GIVEN WITH THE SEED: the statements are not yours to turn. If you find one false, say at which input.
  Laid BY PROGRAM, IN A SANDBOX (cutbox-rows.mjs): the forced cells as the released guide's own fill.sh prints them over the translation 6c2cf780bfc7791d… (all of the seat's roots in one cut). By AI agents, Wed Nov 11 2026. No macro, syntax, notation, axiom, sorry.
-/
import Derived.Test.YtoncfkdgddfnlaaChecked
import GoSem.Claim
import GoSem.ClaimJoined
import GoSem.ClaimMapViews
import Derived.JoinedTies
import Derived.KernelRfl
namespace Go.Proofs.Ytoncfkdgddfnlaa
/- THE CELL 'sum', in the pinned program and in every row, IS THE sha256 OF THE DUMP (.gsa) THAT YtoncfkdgddfnlaaProg.lean LOADS. Nothing in Lean hashes anything: it is a label: what it is worth is what the hold of that sum in a sandbox is worth. -/
noncomputable def Try.pinned : Pinned := { name := "ytoncfkdgddfnlaa", sum := "6c2cf780bfc7791d015a12a45208cbf838e5fe8c004ed5c20de5941ccfa81903", checked := Try.checked }
namespace Rows
def none {H : Type} : Left H := { results := [], args := [] }

/-- 'chargenetlaw49.SettleNets': WHATEVER THE INPUT: true; the input reads as it did. -/
def settleNetsSpec : ChangeSpec := { name := "settleNets", fn := fun _ => fun
  | [d] => { results := [.lit (.bool true)], args := [d] }
  | _ => none }
def settleNetsRow : OpenClaim := { program := "ytoncfkdgddfnlaa", sum := "6c2cf780bfc7791d015a12a45208cbf838e5fe8c004ed5c20de5941ccfa81903", func := "chargenet/chargenetlaw49.SettleNets", spec := "settleNets", unfollowed := true, recurses := true, apart := false }
def SettleNetsSaid : Prop := settleNetsRow.holds Try.pinned (OpenSpec.ofChange settleNetsSpec)

/-- ITS FALSE NEIGHBOUR: 'it returns false'. Refute it at one input. -/
def settleNetsWrong : ChangeSpec := { name := "settleNets", fn := fun _ => fun
  | [d] => { results := [.lit (.bool false)], args := [d] }
  | _ => none }
def SettleNetsWrongFalsely : Prop := settleNetsRow.holds Try.pinned (OpenSpec.ofChange settleNetsWrong)

/-- 'chargenetlaw49.SettlePositions': WHATEVER THE INPUT: true; the input reads as it did. -/
def settlePositionsSpec : ChangeSpec := { name := "settlePositions", fn := fun _ => fun
  | [d] => { results := [.lit (.bool true)], args := [d] }
  | _ => none }
def settlePositionsRow : OpenClaim := { program := "ytoncfkdgddfnlaa", sum := "6c2cf780bfc7791d015a12a45208cbf838e5fe8c004ed5c20de5941ccfa81903", func := "chargenet/chargenetlaw49.SettlePositions", spec := "settlePositions", unfollowed := true, recurses := true, apart := false }
def SettlePositionsSaid : Prop := settlePositionsRow.holds Try.pinned (OpenSpec.ofChange settlePositionsSpec)

/-- ITS FALSE NEIGHBOUR: 'it returns false'. Refute it at one input. -/
def settlePositionsWrong : ChangeSpec := { name := "settlePositions", fn := fun _ => fun
  | [d] => { results := [.lit (.bool false)], args := [d] }
  | _ => none }
def SettlePositionsWrongFalsely : Prop := settlePositionsRow.holds Try.pinned (OpenSpec.ofChange settlePositionsWrong)

/-- 'chargenetlaw49.SettleOwes': WHATEVER THE INPUT: true; the input reads as it did. -/
def settleOwesSpec : ChangeSpec := { name := "settleOwes", fn := fun _ => fun
  | [d] => { results := [.lit (.bool true)], args := [d] }
  | _ => none }
def settleOwesRow : OpenClaim := { program := "ytoncfkdgddfnlaa", sum := "6c2cf780bfc7791d015a12a45208cbf838e5fe8c004ed5c20de5941ccfa81903", func := "chargenet/chargenetlaw49.SettleOwes", spec := "settleOwes", inPlace := ["math/bits.Add64"], unfollowed := true, recurses := true, apart := false }
def SettleOwesSaid : Prop := settleOwesRow.holds Try.pinned (OpenSpec.ofChange settleOwesSpec)

/-- ITS FALSE NEIGHBOUR: 'it returns false'. Refute it at one input. -/
def settleOwesWrong : ChangeSpec := { name := "settleOwes", fn := fun _ => fun
  | [d] => { results := [.lit (.bool false)], args := [d] }
  | _ => none }
def SettleOwesWrongFalsely : Prop := settleOwesRow.holds Try.pinned (OpenSpec.ofChange settleOwesWrong)

/-- 'chargenetlaw49.SettleSpans': WHATEVER THE INPUT: true; the input reads as it did. -/
def settleSpansSpec : ChangeSpec := { name := "settleSpans", fn := fun _ => fun
  | [d1, d2] => { results := [.lit (.bool true)], args := [d1, d2] }
  | _ => none }
def settleSpansRow : OpenClaim := { program := "ytoncfkdgddfnlaa", sum := "6c2cf780bfc7791d015a12a45208cbf838e5fe8c004ed5c20de5941ccfa81903", func := "chargenet/chargenetlaw49.SettleSpans", spec := "settleSpans", inPlace := ["math/bits.Add64"], unfollowed := true, recurses := true, apart := false }
def SettleSpansSaid : Prop := settleSpansRow.holds Try.pinned (OpenSpec.ofChange settleSpansSpec)

/-- ITS FALSE NEIGHBOUR: 'it returns false'. Refute it at one input. -/
def settleSpansWrong : ChangeSpec := { name := "settleSpans", fn := fun _ => fun
  | [d1, d2] => { results := [.lit (.bool false)], args := [d1, d2] }
  | _ => none }
def SettleSpansWrongFalsely : Prop := settleSpansRow.holds Try.pinned (OpenSpec.ofChange settleSpansWrong)

/-- 'chargenetlaw49.SettleCredits': WHATEVER THE INPUT: true; the input reads as it did. -/
def settleCreditsSpec : ChangeSpec := { name := "settleCredits", fn := fun _ => fun
  | [d] => { results := [.lit (.bool true)], args := [d] }
  | _ => none }
def settleCreditsRow : OpenClaim := { program := "ytoncfkdgddfnlaa", sum := "6c2cf780bfc7791d015a12a45208cbf838e5fe8c004ed5c20de5941ccfa81903", func := "chargenet/chargenetlaw49.SettleCredits", spec := "settleCredits", inPlace := ["math/bits.Add64"], unfollowed := true, recurses := true, apart := false }
def SettleCreditsSaid : Prop := settleCreditsRow.holds Try.pinned (OpenSpec.ofChange settleCreditsSpec)

/-- ITS FALSE NEIGHBOUR: 'it returns false'. Refute it at one input. -/
def settleCreditsWrong : ChangeSpec := { name := "settleCredits", fn := fun _ => fun
  | [d] => { results := [.lit (.bool false)], args := [d] }
  | _ => none }
def SettleCreditsWrongFalsely : Prop := settleCreditsRow.holds Try.pinned (OpenSpec.ofChange settleCreditsWrong)

/- THE SECOND FORM. 'bulk': how many values and letters a reading holds, each counted each time it is reached (what is shared counts as often as it is met; a slice's spare places count too). A statement '..UptoSaid' is the law's where the arguments, and the package variables that the reading takes, are together of bulk at most 1048576: NARROWER than '..Said'. Prove '..Said' where nothing that the law and all that it calls make is longer than what came in: it says more and counts as full. Else prove '..UptoSaid'. A law counts once. -/
mutual
def uptoBulk {H : Type} : DataW H → Nat
  | .lit (.string bytes) => bytes.length + 1
  | .lit _ => 1
  | .nil => 1
  | .ptr d => uptoBulk d + 1
  | .slice elems spare => uptoBulkAll elems + uptoBulkAll spare + 1
  | .agg parts => uptoBulkAll parts + 1
  | .iface _ d => uptoBulk d + 1
  | .map entries => uptoBulkEntries entries + 1
  | .held _ => 1
def uptoBulkAll {H : Type} : List (DataW H) → Nat
  | [] => 0
  | d :: r => uptoBulk d + uptoBulkAll r
def uptoBulkEntries {H : Type} : List (Lit × DataW H) → Nat
  | [] => 0
  | x :: r => uptoBulkEntry x + uptoBulkEntries r
def uptoBulkEntry {H : Type} : Lit × DataW H → Nat
  | (.string bytes, d) => bytes.length + uptoBulk d + 1
  | (_, d) => uptoBulk d + 1
 end
def uptoSmall : (H : Type) → List (DataW H) → Bool := fun _ ds => decide (uptoBulkAll ds ≤ 1048576)
def OpenSpec.upto (s : _root_.Go.ChangeSpec) : _root_.Go.OpenSpec := { _root_.Go.OpenSpec.ofChange s with cond := some uptoSmall }

/-- 'chargenetlaw49.SettleNets', WHERE WHAT IT READS IS OF BULK AT MOST 1048576: true; the input reads as it did. -/
def settleNetsUptoRow : OpenClaim := { program := "ytoncfkdgddfnlaa", sum := "6c2cf780bfc7791d015a12a45208cbf838e5fe8c004ed5c20de5941ccfa81903", func := "chargenet/chargenetlaw49.SettleNets", spec := "settleNets", unfollowed := true, recurses := true, apart := false, narrowed := true }
def SettleNetsUptoSaid : Prop := settleNetsUptoRow.holds Try.pinned (OpenSpec.upto settleNetsSpec)

/-- 'chargenetlaw49.SettlePositions', WHERE WHAT IT READS IS OF BULK AT MOST 1048576: true; the input reads as it did. -/
def settlePositionsUptoRow : OpenClaim := { program := "ytoncfkdgddfnlaa", sum := "6c2cf780bfc7791d015a12a45208cbf838e5fe8c004ed5c20de5941ccfa81903", func := "chargenet/chargenetlaw49.SettlePositions", spec := "settlePositions", unfollowed := true, recurses := true, apart := false, narrowed := true }
def SettlePositionsUptoSaid : Prop := settlePositionsUptoRow.holds Try.pinned (OpenSpec.upto settlePositionsSpec)

/-- 'chargenetlaw49.SettleOwes', WHERE WHAT IT READS IS OF BULK AT MOST 1048576: true; the input reads as it did. -/
def settleOwesUptoRow : OpenClaim := { program := "ytoncfkdgddfnlaa", sum := "6c2cf780bfc7791d015a12a45208cbf838e5fe8c004ed5c20de5941ccfa81903", func := "chargenet/chargenetlaw49.SettleOwes", spec := "settleOwes", inPlace := ["math/bits.Add64"], unfollowed := true, recurses := true, apart := false, narrowed := true }
def SettleOwesUptoSaid : Prop := settleOwesUptoRow.holds Try.pinned (OpenSpec.upto settleOwesSpec)

/-- 'chargenetlaw49.SettleSpans', WHERE WHAT IT READS IS OF BULK AT MOST 1048576: true; the input reads as it did. -/
def settleSpansUptoRow : OpenClaim := { program := "ytoncfkdgddfnlaa", sum := "6c2cf780bfc7791d015a12a45208cbf838e5fe8c004ed5c20de5941ccfa81903", func := "chargenet/chargenetlaw49.SettleSpans", spec := "settleSpans", inPlace := ["math/bits.Add64"], unfollowed := true, recurses := true, apart := false, narrowed := true }
def SettleSpansUptoSaid : Prop := settleSpansUptoRow.holds Try.pinned (OpenSpec.upto settleSpansSpec)

/-- 'chargenetlaw49.SettleCredits', WHERE WHAT IT READS IS OF BULK AT MOST 1048576: true; the input reads as it did. -/
def settleCreditsUptoRow : OpenClaim := { program := "ytoncfkdgddfnlaa", sum := "6c2cf780bfc7791d015a12a45208cbf838e5fe8c004ed5c20de5941ccfa81903", func := "chargenet/chargenetlaw49.SettleCredits", spec := "settleCredits", inPlace := ["math/bits.Add64"], unfollowed := true, recurses := true, apart := false, narrowed := true }
def SettleCreditsUptoSaid : Prop := settleCreditsUptoRow.holds Try.pinned (OpenSpec.upto settleCreditsSpec)

end Rows
end Go.Proofs.Ytoncfkdgddfnlaa
