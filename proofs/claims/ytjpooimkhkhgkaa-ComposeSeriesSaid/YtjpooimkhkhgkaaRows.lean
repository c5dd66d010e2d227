/-
  No cell of these rows narrows 'for every input' (looked for: loops, veiled, ifaces, maps, wideKeys, modest, calm, conditions, laid).
  DERIVED. THE GIVEN ROWS OF THIS SEAT. 5 by the template 'for every input the law returns true; each argument reads behind the call as it read before'; 0 by the template 'total and deterministic' (their statements: YtjpooimkhkhgkaaTotals.lean).
  GIVEN WITH THE SEED: the statements are not yours to turn. If you find one false, say at which input.
  Laid BY PROGRAM, IN A SANDBOX (cutbox-rows.mjs): the forced cells as the released guide's own fill.sh prints them over the translation 7d603ebaa8a8217a… (all of the seat's roots in one cut). By AI agents, Wed Nov 11 2026. No macro, syntax, notation, axiom, sorry.
-/
import Derived.Test.YtjpooimkhkhgkaaChecked
import GoSem.Claim
import GoSem.ClaimJoined
import GoSem.ClaimMapViews
import Derived.JoinedTies
import Derived.KernelRfl
namespace Go.Proofs.Ytjpooimkhkhgkaa
/- THE CELL 'sum', in the pinned program and in every row, IS THE sha256 OF THE DUMP (.gsa) THAT YtjpooimkhkhgkaaProg.lean LOADS. Nothing in Lean hashes anything: it is a label: what it is worth is what the hold of that sum in a sandbox is worth. -/
noncomputable def Try.pinned : Pinned := { name := "ytjpooimkhkhgkaa", sum := "7d603ebaa8a8217af4a38a7448f37ad631e82ba7f3be8ef716ddd6dfe94e9cfb", checked := Try.checked }
namespace Rows
def none {H : Type} : Left H := { results := [], args := [] }

/-- 'chargenetlaw16.ComposeIgnores': WHATEVER THE INPUT: true; the input reads as it did. -/
def composeIgnoresSpec : ChangeSpec := { name := "composeIgnores", fn := fun _ => fun
  | [d1, d2] => { results := [.lit (.bool true)], args := [d1, d2] }
  | _ => none }
def composeIgnoresRow : OpenClaim := { program := "ytjpooimkhkhgkaa", sum := "7d603ebaa8a8217af4a38a7448f37ad631e82ba7f3be8ef716ddd6dfe94e9cfb", func := "chargenet/chargenetlaw16.ComposeIgnores", spec := "composeIgnores", unfollowed := true, recurses := true, apart := false }
def ComposeIgnoresSaid : Prop := composeIgnoresRow.holds Try.pinned (OpenSpec.ofChange composeIgnoresSpec)

/-- ITS FALSE NEIGHBOUR: 'it returns false'. Refute it at one input. -/
def composeIgnoresWrong : ChangeSpec := { name := "composeIgnores", fn := fun _ => fun
  | [d1, d2] => { results := [.lit (.bool false)], args := [d1, d2] }
  | _ => none }
def ComposeIgnoresWrongFalsely : Prop := composeIgnoresRow.holds Try.pinned (OpenSpec.ofChange composeIgnoresWrong)

/-- 'chargenetlaw16.ComposeBounds': WHATEVER THE INPUT: true; the input reads as it did. -/
def composeBoundsSpec : ChangeSpec := { name := "composeBounds", fn := fun _ => fun
  | [d1, d2] => { results := [.lit (.bool true)], args := [d1, d2] }
  | _ => none }
def composeBoundsRow : OpenClaim := { program := "ytjpooimkhkhgkaa", sum := "7d603ebaa8a8217af4a38a7448f37ad631e82ba7f3be8ef716ddd6dfe94e9cfb", func := "chargenet/chargenetlaw16.ComposeBounds", spec := "composeBounds", unfollowed := true, recurses := true, apart := false }
def ComposeBoundsSaid : Prop := composeBoundsRow.holds Try.pinned (OpenSpec.ofChange composeBoundsSpec)

/-- ITS FALSE NEIGHBOUR: 'it returns false'. Refute it at one input. -/
def composeBoundsWrong : ChangeSpec := { name := "composeBounds", fn := fun _ => fun
  | [d1, d2] => { results := [.lit (.bool false)], args := [d1, d2] }
  | _ => none }
def ComposeBoundsWrongFalsely : Prop := composeBoundsRow.holds Try.pinned (OpenSpec.ofChange composeBoundsWrong)

/-- 'chargenetlaw16.ComposeAts': WHATEVER THE INPUT: true; the input reads as it did. -/
def composeAtsSpec : ChangeSpec := { name := "composeAts", fn := fun _ => fun
  | [d] => { results := [.lit (.bool true)], args := [d] }
  | _ => none }
def composeAtsRow : OpenClaim := { program := "ytjpooimkhkhgkaa", sum := "7d603ebaa8a8217af4a38a7448f37ad631e82ba7f3be8ef716ddd6dfe94e9cfb", func := "chargenet/chargenetlaw16.ComposeAts", spec := "composeAts", unfollowed := true, recurses := true, apart := false }
def ComposeAtsSaid : Prop := composeAtsRow.holds Try.pinned (OpenSpec.ofChange composeAtsSpec)

/-- ITS FALSE NEIGHBOUR: 'it returns false'. Refute it at one input. -/
def composeAtsWrong : ChangeSpec := { name := "composeAts", fn := fun _ => fun
  | [d] => { results := [.lit (.bool false)], args := [d] }
  | _ => none }
def ComposeAtsWrongFalsely : Prop := composeAtsRow.holds Try.pinned (OpenSpec.ofChange composeAtsWrong)

/-- 'chargenetlaw16.ComposeRanges': WHATEVER THE INPUT: true; the input reads as it did. -/
def composeRangesSpec : ChangeSpec := { name := "composeRanges", fn := fun _ => fun
  | [d1, d2] => { results := [.lit (.bool true)], args := [d1, d2] }
  | _ => none }
def composeRangesRow : OpenClaim := { program := "ytjpooimkhkhgkaa", sum := "7d603ebaa8a8217af4a38a7448f37ad631e82ba7f3be8ef716ddd6dfe94e9cfb", func := "chargenet/chargenetlaw16.ComposeRanges", spec := "composeRanges", unfollowed := true, recurses := true, apart := false }
def ComposeRangesSaid : Prop := composeRangesRow.holds Try.pinned (OpenSpec.ofChange composeRangesSpec)

/-- ITS FALSE NEIGHBOUR: 'it returns false'. Refute it at one input. -/
def composeRangesWrong : ChangeSpec := { name := "composeRanges", fn := fun _ => fun
  | [d1, d2] => { results := [.lit (.bool false)], args := [d1, d2] }
  | _ => none }
def ComposeRangesWrongFalsely : Prop := composeRangesRow.holds Try.pinned (OpenSpec.ofChange composeRangesWrong)

/-- 'chargenetlaw16.ComposeSeries': WHATEVER THE INPUT: true; the input reads as it did. -/
def composeSeriesSpec : ChangeSpec := { name := "composeSeries", fn := fun _ => fun
  | [d] => { results := [.lit (.bool true)], args := [d] }
  | _ => none }
def composeSeriesRow : OpenClaim := { program := "ytjpooimkhkhgkaa", sum := "7d603ebaa8a8217af4a38a7448f37ad631e82ba7f3be8ef716ddd6dfe94e9cfb", func := "chargenet/chargenetlaw16.ComposeSeries", spec := "composeSeries", unfollowed := true, recurses := true, apart := false }
def ComposeSeriesSaid : Prop := composeSeriesRow.holds Try.pinned (OpenSpec.ofChange composeSeriesSpec)

/-- ITS FALSE NEIGHBOUR: 'it returns false'. Refute it at one input. -/
def composeSeriesWrong : ChangeSpec := { name := "composeSeries", fn := fun _ => fun
  | [d] => { results := [.lit (.bool false)], args := [d] }
  | _ => none }
def ComposeSeriesWrongFalsely : Prop := composeSeriesRow.holds Try.pinned (OpenSpec.ofChange composeSeriesWrong)

/- THE SECOND FORM. 'bulk': how many values and letters a reading holds, each counted each time it is reached (what is shared counts as often as it is met; a slice's spare places count too). A statement '..UptoSaid' is the law's where the arguments, and the package variables that the reading takes, are together of bulk at most 1048576: NARROWER than '..Said'. Prove '..Said' where nothing that the law and all that it calls make is longer than what came in: it says more and counts as full. Else prove '..UptoSaid'. A law counts once. -/
mutual
def uptoBulk {H : Type} : DataW H → Nat
  | .lit (.string bytes) => bytes.length + 1
  | .lit _ => 1
  | .nil => 1
  | .ptr d => uptoBulk d + 1
  | .slice elems spare => uptoBulkAll elems + uptoBulkAll spare + 1
  | .agg parts => uptoBulkAll parts + 1
  | .iface _ d => uptoBulk d + 1
  | .map entries => uptoBulkEntries entries + 1
  | .held _ => 1
def uptoBulkAll {H : Type} : List (DataW H) → Nat
  | [] => 0
  | d :: r => uptoBulk d + uptoBulkAll r
def uptoBulkEntries {H : Type} : List (Lit × DataW H) → Nat
  | [] => 0
  | x :: r => uptoBulkEntry x + uptoBulkEntries r
def uptoBulkEntry {H : Type} : Lit × DataW H → Nat
  | (.string bytes, d) => bytes.length + uptoBulk d + 1
  | (_, d) => uptoBulk d + 1
 end
def uptoSmall : (H : Type) → List (DataW H) → Bool := fun _ ds => decide (uptoBulkAll ds ≤ 1048576)
def OpenSpec.upto (s : _root_.Go.ChangeSpec) : _root_.Go.OpenSpec := { _root_.Go.OpenSpec.ofChange s with cond := some uptoSmall }

/-- 'chargenetlaw16.ComposeIgnores', WHERE WHAT IT READS IS OF BULK AT MOST 1048576: true; the input reads as it did. -/
def composeIgnoresUptoRow : OpenClaim := { program := "ytjpooimkhkhgkaa", sum := "7d603ebaa8a8217af4a38a7448f37ad631e82ba7f3be8ef716ddd6dfe94e9cfb", func := "chargenet/chargenetlaw16.ComposeIgnores", spec := "composeIgnores", unfollowed := true, recurses := true, apart := false, narrowed := true }
def ComposeIgnoresUptoSaid : Prop := composeIgnoresUptoRow.holds Try.pinned (OpenSpec.upto composeIgnoresSpec)

/-- 'chargenetlaw16.ComposeBounds', WHERE WHAT IT READS IS OF BULK AT MOST 1048576: true; the input reads as it did. -/
def composeBoundsUptoRow : OpenClaim := { program := "ytjpooimkhkhgkaa", sum := "7d603ebaa8a8217af4a38a7448f37ad631e82ba7f3be8ef716ddd6dfe94e9cfb", func := "chargenet/chargenetlaw16.ComposeBounds", spec := "composeBounds", unfollowed := true, recurses := true, apart := false, narrowed := true }
def ComposeBoundsUptoSaid : Prop := composeBoundsUptoRow.holds Try.pinned (OpenSpec.upto composeBoundsSpec)

/-- 'chargenetlaw16.ComposeAts', WHERE WHAT IT READS IS OF BULK AT MOST 1048576: true; the input reads as it did. -/
def composeAtsUptoRow : OpenClaim := { program := "ytjpooimkhkhgkaa", sum := "7d603ebaa8a8217af4a38a7448f37ad631e82ba7f3be8ef716ddd6dfe94e9cfb", func := "chargenet/chargenetlaw16.ComposeAts", spec := "composeAts", unfollowed := true, recurses := true, apart := false, narrowed := true }
def ComposeAtsUptoSaid : Prop := composeAtsUptoRow.holds Try.pinned (OpenSpec.upto composeAtsSpec)

/-- 'chargenetlaw16.ComposeRanges', WHERE WHAT IT READS IS OF BULK AT MOST 1048576: true; the input reads as it did. -/
def composeRangesUptoRow : OpenClaim := { program := "ytjpooimkhkhgkaa", sum := "7d603ebaa8a8217af4a38a7448f37ad631e82ba7f3be8ef716ddd6dfe94e9cfb", func := "chargenet/chargenetlaw16.ComposeRanges", spec := "composeRanges", unfollowed := true, recurses := true, apart := false, narrowed := true }
def ComposeRangesUptoSaid : Prop := composeRangesUptoRow.holds Try.pinned (OpenSpec.upto composeRangesSpec)

/-- 'chargenetlaw16.ComposeSeries', WHERE WHAT IT READS IS OF BULK AT MOST 1048576: true; the input reads as it did. -/
def composeSeriesUptoRow : OpenClaim := { program := "ytjpooimkhkhgkaa", sum := "7d603ebaa8a8217af4a38a7448f37ad631e82ba7f3be8ef716ddd6dfe94e9cfb", func := "chargenet/chargenetlaw16.ComposeSeries", spec := "composeSeries", unfollowed := true, recurses := true, apart := false, narrowed := true }
def ComposeSeriesUptoSaid : Prop := composeSeriesUptoRow.holds Try.pinned (OpenSpec.upto composeSeriesSpec)

end Rows
end Go.Proofs.Ytjpooimkhkhgkaa
