/-
  No cell of these rows narrows 'for every input' (looked for: loops, veiled, ifaces, maps, wideKeys, modest, calm, conditions, laid).
  DERIVED. THE GIVEN ROWS OF THIS SEAT. 7 by the template 'for every input the law returns true; each argument reads behind the call as it read before'; 0 by the template 'total and deterministic' (their statements: YtggfgdohbeoabaaTotals.lean).
  GIVEN WITH THE SEED: the statements are not yours to turn. If you find one false, say at which input.
  Laid BY PROGRAM, IN A SANDBOX (cutbox-rows.mjs): the forced cells as the released guide's own fill.sh prints them over the translation 04a23477d2cbd075… (all of the seat's roots in one cut). By AI agents, Wed Nov 11 2026. No macro, syntax, notation, axiom, sorry.
-/
import Derived.Test.YtggfgdohbeoabaaChecked
import GoSem.Claim
import GoSem.ClaimJoined
import GoSem.ClaimMapViews
import Derived.JoinedTies
import Derived.KernelRfl
namespace Go.Proofs.Ytggfgdohbeoabaa
/- THE CELL 'sum', in the pinned program and in every row, IS THE sha256 OF THE DUMP (.gsa) THAT YtggfgdohbeoabaaProg.lean LOADS. Nothing in Lean hashes anything: it is a label: what it is worth is what the hold of that sum in a sandbox is worth. -/
noncomputable def Try.pinned : Pinned := { name := "ytggfgdohbeoabaa", sum := "04a23477d2cbd075c375d69a6db9d390bdceeb742cfe4aa68d38dad49ed8e198", checked := Try.checked }
namespace Rows
def none {H : Type} : Left H := { results := [], args := [] }

/-- 'chargenetlaw39.AccessValid': WHATEVER THE INPUT: true; the input reads as it did. -/
def accessValidSpec : ChangeSpec := { name := "accessValid", fn := fun _ => fun
  | [d] => { results := [.lit (.bool true)], args := [d] }
  | _ => none }
def accessValidRow : OpenClaim := { program := "ytggfgdohbeoabaa", sum := "04a23477d2cbd075c375d69a6db9d390bdceeb742cfe4aa68d38dad49ed8e198", func := "chargenet/chargenetlaw39.AccessValid", spec := "accessValid", recurses := true, apart := false }
def AccessValidSaid : Prop := accessValidRow.holds Try.pinned (OpenSpec.ofChange accessValidSpec)

/-- ITS FALSE NEIGHBOUR: 'it returns false'. Refute it at one input. -/
def accessValidWrong : ChangeSpec := { name := "accessValid", fn := fun _ => fun
  | [d] => { results := [.lit (.bool false)], args := [d] }
  | _ => none }
def AccessValidWrongFalsely : Prop := accessValidRow.holds Try.pinned (OpenSpec.ofChange accessValidWrong)

/-- 'chargenetlaw39.AccessAllowed': WHATEVER THE INPUT: true; the input reads as it did. -/
def accessAllowedSpec : ChangeSpec := { name := "accessAllowed", fn := fun _ => fun
  | [d1, d2] => { results := [.lit (.bool true)], args := [d1, d2] }
  | _ => none }
def accessAllowedRow : OpenClaim := { program := "ytggfgdohbeoabaa", sum := "04a23477d2cbd075c375d69a6db9d390bdceeb742cfe4aa68d38dad49ed8e198", func := "chargenet/chargenetlaw39.AccessAllowed", spec := "accessAllowed", recurses := true, apart := false }
def AccessAllowedSaid : Prop := accessAllowedRow.holds Try.pinned (OpenSpec.ofChange accessAllowedSpec)

/-- ITS FALSE NEIGHBOUR: 'it returns false'. Refute it at one input. -/
def accessAllowedWrong : ChangeSpec := { name := "accessAllowed", fn := fun _ => fun
  | [d1, d2] => { results := [.lit (.bool false)], args := [d1, d2] }
  | _ => none }
def AccessAllowedWrongFalsely : Prop := accessAllowedRow.holds Try.pinned (OpenSpec.ofChange accessAllowedWrong)

/-- 'chargenetlaw39.AccessGives': WHATEVER THE INPUT: true; the input reads as it did. -/
def accessGivesSpec : ChangeSpec := { name := "accessGives", fn := fun _ => fun
  | [d1, d2] => { results := [.lit (.bool true)], args := [d1, d2] }
  | _ => none }
def accessGivesRow : OpenClaim := { program := "ytggfgdohbeoabaa", sum := "04a23477d2cbd075c375d69a6db9d390bdceeb742cfe4aa68d38dad49ed8e198", func := "chargenet/chargenetlaw39.AccessGives", spec := "accessGives", recurses := true, apart := false }
def AccessGivesSaid : Prop := accessGivesRow.holds Try.pinned (OpenSpec.ofChange accessGivesSpec)

/-- ITS FALSE NEIGHBOUR: 'it returns false'. Refute it at one input. -/
def accessGivesWrong : ChangeSpec := { name := "accessGives", fn := fun _ => fun
  | [d1, d2] => { results := [.lit (.bool false)], args := [d1, d2] }
  | _ => none }
def AccessGivesWrongFalsely : Prop := accessGivesRow.holds Try.pinned (OpenSpec.ofChange accessGivesWrong)

/-- 'chargenetlaw39.AccessTakes': WHATEVER THE INPUT: true; the input reads as it did. -/
def accessTakesSpec : ChangeSpec := { name := "accessTakes", fn := fun _ => fun
  | [d1, d2, d3] => { results := [.lit (.bool true)], args := [d1, d2, d3] }
  | _ => none }
def accessTakesRow : OpenClaim := { program := "ytggfgdohbeoabaa", sum := "04a23477d2cbd075c375d69a6db9d390bdceeb742cfe4aa68d38dad49ed8e198", func := "chargenet/chargenetlaw39.AccessTakes", spec := "accessTakes", recurses := true, apart := false }
def AccessTakesSaid : Prop := accessTakesRow.holds Try.pinned (OpenSpec.ofChange accessTakesSpec)

/-- ITS FALSE NEIGHBOUR: 'it returns false'. Refute it at one input. -/
def accessTakesWrong : ChangeSpec := { name := "accessTakes", fn := fun _ => fun
  | [d1, d2, d3] => { results := [.lit (.bool false)], args := [d1, d2, d3] }
  | _ => none }
def AccessTakesWrongFalsely : Prop := accessTakesRow.holds Try.pinned (OpenSpec.ofChange accessTakesWrong)

/-- 'chargenetlaw39.AccessUsers': WHATEVER THE INPUT: true; the input reads as it did. -/
def accessUsersSpec : ChangeSpec := { name := "accessUsers", fn := fun _ => fun
  | [d1, d2] => { results := [.lit (.bool true)], args := [d1, d2] }
  | _ => none }
def accessUsersRow : OpenClaim := { program := "ytggfgdohbeoabaa", sum := "04a23477d2cbd075c375d69a6db9d390bdceeb742cfe4aa68d38dad49ed8e198", func := "chargenet/chargenetlaw39.AccessUsers", spec := "accessUsers", recurses := true, apart := false }
def AccessUsersSaid : Prop := accessUsersRow.holds Try.pinned (OpenSpec.ofChange accessUsersSpec)

/-- ITS FALSE NEIGHBOUR: 'it returns false'. Refute it at one input. -/
def accessUsersWrong : ChangeSpec := { name := "accessUsers", fn := fun _ => fun
  | [d1, d2] => { results := [.lit (.bool false)], args := [d1, d2] }
  | _ => none }
def AccessUsersWrongFalsely : Prop := accessUsersRow.holds Try.pinned (OpenSpec.ofChange accessUsersWrong)

/-- 'chargenetlaw39.AccessDenies': WHATEVER THE INPUT: true; the input reads as it did. -/
def accessDeniesSpec : ChangeSpec := { name := "accessDenies", fn := fun _ => fun
  | [d1, d2, d3] => { results := [.lit (.bool true)], args := [d1, d2, d3] }
  | _ => none }
def accessDeniesRow : OpenClaim := { program := "ytggfgdohbeoabaa", sum := "04a23477d2cbd075c375d69a6db9d390bdceeb742cfe4aa68d38dad49ed8e198", func := "chargenet/chargenetlaw39.AccessDenies", spec := "accessDenies", recurses := true, apart := false }
def AccessDeniesSaid : Prop := accessDeniesRow.holds Try.pinned (OpenSpec.ofChange accessDeniesSpec)

/-- ITS FALSE NEIGHBOUR: 'it returns false'. Refute it at one input. -/
def accessDeniesWrong : ChangeSpec := { name := "accessDenies", fn := fun _ => fun
  | [d1, d2, d3] => { results := [.lit (.bool false)], args := [d1, d2, d3] }
  | _ => none }
def AccessDeniesWrongFalsely : Prop := accessDeniesRow.holds Try.pinned (OpenSpec.ofChange accessDeniesWrong)

/-- 'chargenetlaw39.AccessEnds': WHATEVER THE INPUT: true; the input reads as it did. -/
def accessEndsSpec : ChangeSpec := { name := "accessEnds", fn := fun _ => fun
  | [d1, d2, d3] => { results := [.lit (.bool true)], args := [d1, d2, d3] }
  | _ => none }
def accessEndsRow : OpenClaim := { program := "ytggfgdohbeoabaa", sum := "04a23477d2cbd075c375d69a6db9d390bdceeb742cfe4aa68d38dad49ed8e198", func := "chargenet/chargenetlaw39.AccessEnds", spec := "accessEnds", recurses := true, apart := false }
def AccessEndsSaid : Prop := accessEndsRow.holds Try.pinned (OpenSpec.ofChange accessEndsSpec)

/-- ITS FALSE NEIGHBOUR: 'it returns false'. Refute it at one input. -/
def accessEndsWrong : ChangeSpec := { name := "accessEnds", fn := fun _ => fun
  | [d1, d2, d3] => { results := [.lit (.bool false)], args := [d1, d2, d3] }
  | _ => none }
def AccessEndsWrongFalsely : Prop := accessEndsRow.holds Try.pinned (OpenSpec.ofChange accessEndsWrong)

/- THE SECOND FORM. 'bulk': how many values and letters a reading holds, each counted each time it is reached (what is shared counts as often as it is met; a slice's spare places count too). A statement '..UptoSaid' is the law's where the arguments, and the package variables that the reading takes, are together of bulk at most 1048576: NARROWER than '..Said'. Prove '..Said' where nothing that the law and all that it calls make is longer than what came in: it says more and counts as full. Else prove '..UptoSaid'. A law counts once. -/
mutual
def uptoBulk {H : Type} : DataW H → Nat
  | .lit (.string bytes) => bytes.length + 1
  | .lit _ => 1
  | .nil => 1
  | .ptr d => uptoBulk d + 1
  | .slice elems spare => uptoBulkAll elems + uptoBulkAll spare + 1
  | .agg parts => uptoBulkAll parts + 1
  | .iface _ d => uptoBulk d + 1
  | .map entries => uptoBulkEntries entries + 1
  | .held _ => 1
def uptoBulkAll {H : Type} : List (DataW H) → Nat
  | [] => 0
  | d :: r => uptoBulk d + uptoBulkAll r
def uptoBulkEntries {H : Type} : List (Lit × DataW H) → Nat
  | [] => 0
  | x :: r => uptoBulkEntry x + uptoBulkEntries r
def uptoBulkEntry {H : Type} : Lit × DataW H → Nat
  | (.string bytes, d) => bytes.length + uptoBulk d + 1
  | (_, d) => uptoBulk d + 1
 end
def uptoSmall : (H : Type) → List (DataW H) → Bool := fun _ ds => decide (uptoBulkAll ds ≤ 1048576)
def OpenSpec.upto (s : _root_.Go.ChangeSpec) : _root_.Go.OpenSpec := { _root_.Go.OpenSpec.ofChange s with cond := some uptoSmall }

/-- 'chargenetlaw39.AccessValid', WHERE WHAT IT READS IS OF BULK AT MOST 1048576: true; the input reads as it did. -/
def accessValidUptoRow : OpenClaim := { program := "ytggfgdohbeoabaa", sum := "04a23477d2cbd075c375d69a6db9d390bdceeb742cfe4aa68d38dad49ed8e198", func := "chargenet/chargenetlaw39.AccessValid", spec := "accessValid", recurses := true, apart := false, narrowed := true }
def AccessValidUptoSaid : Prop := accessValidUptoRow.holds Try.pinned (OpenSpec.upto accessValidSpec)

/-- 'chargenetlaw39.AccessAllowed', WHERE WHAT IT READS IS OF BULK AT MOST 1048576: true; the input reads as it did. -/
def accessAllowedUptoRow : OpenClaim := { program := "ytggfgdohbeoabaa", sum := "04a23477d2cbd075c375d69a6db9d390bdceeb742cfe4aa68d38dad49ed8e198", func := "chargenet/chargenetlaw39.AccessAllowed", spec := "accessAllowed", recurses := true, apart := false, narrowed := true }
def AccessAllowedUptoSaid : Prop := accessAllowedUptoRow.holds Try.pinned (OpenSpec.upto accessAllowedSpec)

/-- 'chargenetlaw39.AccessGives', WHERE WHAT IT READS IS OF BULK AT MOST 1048576: true; the input reads as it did. -/
def accessGivesUptoRow : OpenClaim := { program := "ytggfgdohbeoabaa", sum := "04a23477d2cbd075c375d69a6db9d390bdceeb742cfe4aa68d38dad49ed8e198", func := "chargenet/chargenetlaw39.AccessGives", spec := "accessGives", recurses := true, apart := false, narrowed := true }
def AccessGivesUptoSaid : Prop := accessGivesUptoRow.holds Try.pinned (OpenSpec.upto accessGivesSpec)

/-- 'chargenetlaw39.AccessTakes', WHERE WHAT IT READS IS OF BULK AT MOST 1048576: true; the input reads as it did. -/
def accessTakesUptoRow : OpenClaim := { program := "ytggfgdohbeoabaa", sum := "04a23477d2cbd075c375d69a6db9d390bdceeb742cfe4aa68d38dad49ed8e198", func := "chargenet/chargenetlaw39.AccessTakes", spec := "accessTakes", recurses := true, apart := false, narrowed := true }
def AccessTakesUptoSaid : Prop := accessTakesUptoRow.holds Try.pinned (OpenSpec.upto accessTakesSpec)

/-- 'chargenetlaw39.AccessUsers', WHERE WHAT IT READS IS OF BULK AT MOST 1048576: true; the input reads as it did. -/
def accessUsersUptoRow : OpenClaim := { program := "ytggfgdohbeoabaa", sum := "04a23477d2cbd075c375d69a6db9d390bdceeb742cfe4aa68d38dad49ed8e198", func := "chargenet/chargenetlaw39.AccessUsers", spec := "accessUsers", recurses := true, apart := false, narrowed := true }
def AccessUsersUptoSaid : Prop := accessUsersUptoRow.holds Try.pinned (OpenSpec.upto accessUsersSpec)

/-- 'chargenetlaw39.AccessDenies', WHERE WHAT IT READS IS OF BULK AT MOST 1048576: true; the input reads as it did. -/
def accessDeniesUptoRow : OpenClaim := { program := "ytggfgdohbeoabaa", sum := "04a23477d2cbd075c375d69a6db9d390bdceeb742cfe4aa68d38dad49ed8e198", func := "chargenet/chargenetlaw39.AccessDenies", spec := "accessDenies", recurses := true, apart := false, narrowed := true }
def AccessDeniesUptoSaid : Prop := accessDeniesUptoRow.holds Try.pinned (OpenSpec.upto accessDeniesSpec)

/-- 'chargenetlaw39.AccessEnds', WHERE WHAT IT READS IS OF BULK AT MOST 1048576: true; the input reads as it did. -/
def accessEndsUptoRow : OpenClaim := { program := "ytggfgdohbeoabaa", sum := "04a23477d2cbd075c375d69a6db9d390bdceeb742cfe4aa68d38dad49ed8e198", func := "chargenet/chargenetlaw39.AccessEnds", spec := "accessEnds", recurses := true, apart := false, narrowed := true }
def AccessEndsUptoSaid : Prop := accessEndsUptoRow.holds Try.pinned (OpenSpec.upto accessEndsSpec)

end Rows
end Go.Proofs.Ytggfgdohbeoabaa
