/-
  No cell of these rows narrows 'for every input' (looked for: loops, veiled, ifaces, maps, wideKeys, modest, calm, conditions, laid).
  DERIVED. THE GIVEN ROWS OF THIS SEAT. 8 by the template 'for every input the law returns true; each argument reads behind the call as it read before'; 0 by the template 'total and deterministic' (their statements: YtldekibkmombdaaTotals.lean).
  GIVEN WITH THE SEED: the statements are not yours to turn. If you find one false, say at which input.
  Laid BY PROGRAM, IN A SANDBOX (cutbox-rows.mjs): the forced cells as the released guide's own fill.sh prints them over the translation 37a3ba73049907b8… (all of the seat's roots in one cut). By AI agents, Wed Nov 11 2026. No macro, syntax, notation, axiom, sorry.
-/
import Derived.Test.YtldekibkmombdaaChecked
import GoSem.Claim
import GoSem.ClaimJoined
import GoSem.ClaimMapViews
import Derived.JoinedTies
import Derived.KernelRfl
namespace Go.Proofs.Ytldekibkmombdaa
/- THE CELL 'sum', in the pinned program and in every row, IS THE sha256 OF THE DUMP (.gsa) THAT YtldekibkmombdaaProg.lean LOADS. Nothing in Lean hashes anything: it is a label: what it is worth is what the hold of that sum in a sandbox is worth. -/
noncomputable def Try.pinned : Pinned := { name := "ytldekibkmombdaa", sum := "37a3ba73049907b8d9cdf510debdfc89d953441dec6c6eec5428984848bf4dac", checked := Try.checked }
namespace Rows
def none {H : Type} : Left H := { results := [], args := [] }

/-- 'chargenetlaw15.ProfileValids': WHATEVER THE INPUT: true; the input reads as it did. -/
def profileValidsSpec : ChangeSpec := { name := "profileValids", fn := fun _ => fun
  | [d] => { results := [.lit (.bool true)], args := [d] }
  | _ => none }
def profileValidsRow : OpenClaim := { program := "ytldekibkmombdaa", sum := "37a3ba73049907b8d9cdf510debdfc89d953441dec6c6eec5428984848bf4dac", func := "chargenet/chargenetlaw15.ProfileValids", spec := "profileValids", recurses := true, apart := false }
def ProfileValidsSaid : Prop := profileValidsRow.holds Try.pinned (OpenSpec.ofChange profileValidsSpec)

/-- ITS FALSE NEIGHBOUR: 'it returns false'. Refute it at one input. -/
def profileValidsWrong : ChangeSpec := { name := "profileValids", fn := fun _ => fun
  | [d] => { results := [.lit (.bool false)], args := [d] }
  | _ => none }
def ProfileValidsWrongFalsely : Prop := profileValidsRow.holds Try.pinned (OpenSpec.ofChange profileValidsWrong)

/-- 'chargenetlaw15.ProfilePuts': WHATEVER THE INPUT: true; the input reads as it did. -/
def profilePutsSpec : ChangeSpec := { name := "profilePuts", fn := fun _ => fun
  | [d1, d2] => { results := [.lit (.bool true)], args := [d1, d2] }
  | _ => none }
def profilePutsRow : OpenClaim := { program := "ytldekibkmombdaa", sum := "37a3ba73049907b8d9cdf510debdfc89d953441dec6c6eec5428984848bf4dac", func := "chargenet/chargenetlaw15.ProfilePuts", spec := "profilePuts", recurses := true, apart := false }
def ProfilePutsSaid : Prop := profilePutsRow.holds Try.pinned (OpenSpec.ofChange profilePutsSpec)

/-- ITS FALSE NEIGHBOUR: 'it returns false'. Refute it at one input. -/
def profilePutsWrong : ChangeSpec := { name := "profilePuts", fn := fun _ => fun
  | [d1, d2] => { results := [.lit (.bool false)], args := [d1, d2] }
  | _ => none }
def ProfilePutsWrongFalsely : Prop := profilePutsRow.holds Try.pinned (OpenSpec.ofChange profilePutsWrong)

/-- 'chargenetlaw15.ProfileClears': WHATEVER THE INPUT: true; the input reads as it did. -/
def profileClearsSpec : ChangeSpec := { name := "profileClears", fn := fun _ => fun
  | [d1, d2] => { results := [.lit (.bool true)], args := [d1, d2] }
  | _ => none }
def profileClearsRow : OpenClaim := { program := "ytldekibkmombdaa", sum := "37a3ba73049907b8d9cdf510debdfc89d953441dec6c6eec5428984848bf4dac", func := "chargenet/chargenetlaw15.ProfileClears", spec := "profileClears", recurses := true, apart := false }
def ProfileClearsSaid : Prop := profileClearsRow.holds Try.pinned (OpenSpec.ofChange profileClearsSpec)

/-- ITS FALSE NEIGHBOUR: 'it returns false'. Refute it at one input. -/
def profileClearsWrong : ChangeSpec := { name := "profileClears", fn := fun _ => fun
  | [d1, d2] => { results := [.lit (.bool false)], args := [d1, d2] }
  | _ => none }
def ProfileClearsWrongFalsely : Prop := profileClearsRow.holds Try.pinned (OpenSpec.ofChange profileClearsWrong)

/-- 'chargenetlaw15.ProfileUnique': WHATEVER THE INPUT: true; the input reads as it did. -/
def profileUniqueSpec : ChangeSpec := { name := "profileUnique", fn := fun _ => fun
  | [d] => { results := [.lit (.bool true)], args := [d] }
  | _ => none }
def profileUniqueRow : OpenClaim := { program := "ytldekibkmombdaa", sum := "37a3ba73049907b8d9cdf510debdfc89d953441dec6c6eec5428984848bf4dac", func := "chargenet/chargenetlaw15.ProfileUnique", spec := "profileUnique", recurses := true, apart := false }
def ProfileUniqueSaid : Prop := profileUniqueRow.holds Try.pinned (OpenSpec.ofChange profileUniqueSpec)

/-- ITS FALSE NEIGHBOUR: 'it returns false'. Refute it at one input. -/
def profileUniqueWrong : ChangeSpec := { name := "profileUnique", fn := fun _ => fun
  | [d] => { results := [.lit (.bool false)], args := [d] }
  | _ => none }
def ProfileUniqueWrongFalsely : Prop := profileUniqueRow.holds Try.pinned (OpenSpec.ofChange profileUniqueWrong)

/-- 'chargenetlaw15.ProfileLimits': WHATEVER THE INPUT: true; the input reads as it did. -/
def profileLimitsSpec : ChangeSpec := { name := "profileLimits", fn := fun _ => fun
  | [d1, d2, d3] => { results := [.lit (.bool true)], args := [d1, d2, d3] }
  | _ => none }
def profileLimitsRow : OpenClaim := { program := "ytldekibkmombdaa", sum := "37a3ba73049907b8d9cdf510debdfc89d953441dec6c6eec5428984848bf4dac", func := "chargenet/chargenetlaw15.ProfileLimits", spec := "profileLimits", recurses := true, apart := false }
def ProfileLimitsSaid : Prop := profileLimitsRow.holds Try.pinned (OpenSpec.ofChange profileLimitsSpec)

/-- ITS FALSE NEIGHBOUR: 'it returns false'. Refute it at one input. -/
def profileLimitsWrong : ChangeSpec := { name := "profileLimits", fn := fun _ => fun
  | [d1, d2, d3] => { results := [.lit (.bool false)], args := [d1, d2, d3] }
  | _ => none }
def ProfileLimitsWrongFalsely : Prop := profileLimitsRow.holds Try.pinned (OpenSpec.ofChange profileLimitsWrong)

/-- 'chargenetlaw15.ProfileNexts': WHATEVER THE INPUT: true; the input reads as it did. -/
def profileNextsSpec : ChangeSpec := { name := "profileNexts", fn := fun _ => fun
  | [d1, d2, d3] => { results := [.lit (.bool true)], args := [d1, d2, d3] }
  | _ => none }
def profileNextsRow : OpenClaim := { program := "ytldekibkmombdaa", sum := "37a3ba73049907b8d9cdf510debdfc89d953441dec6c6eec5428984848bf4dac", func := "chargenet/chargenetlaw15.ProfileNexts", spec := "profileNexts", recurses := true, apart := false }
def ProfileNextsSaid : Prop := profileNextsRow.holds Try.pinned (OpenSpec.ofChange profileNextsSpec)

/-- ITS FALSE NEIGHBOUR: 'it returns false'. Refute it at one input. -/
def profileNextsWrong : ChangeSpec := { name := "profileNexts", fn := fun _ => fun
  | [d1, d2, d3] => { results := [.lit (.bool false)], args := [d1, d2, d3] }
  | _ => none }
def ProfileNextsWrongFalsely : Prop := profileNextsRow.holds Try.pinned (OpenSpec.ofChange profileNextsWrong)

/-- 'chargenetlaw15.ProfileHolds': WHATEVER THE INPUT: true; the input reads as it did. -/
def profileHoldsSpec : ChangeSpec := { name := "profileHolds", fn := fun _ => fun
  | [d1, d2, d3, d4] => { results := [.lit (.bool true)], args := [d1, d2, d3, d4] }
  | _ => none }
def profileHoldsRow : OpenClaim := { program := "ytldekibkmombdaa", sum := "37a3ba73049907b8d9cdf510debdfc89d953441dec6c6eec5428984848bf4dac", func := "chargenet/chargenetlaw15.ProfileHolds", spec := "profileHolds", recurses := true, apart := false }
def ProfileHoldsSaid : Prop := profileHoldsRow.holds Try.pinned (OpenSpec.ofChange profileHoldsSpec)

/-- ITS FALSE NEIGHBOUR: 'it returns false'. Refute it at one input. -/
def profileHoldsWrong : ChangeSpec := { name := "profileHolds", fn := fun _ => fun
  | [d1, d2, d3, d4] => { results := [.lit (.bool false)], args := [d1, d2, d3, d4] }
  | _ => none }
def ProfileHoldsWrongFalsely : Prop := profileHoldsRow.holds Try.pinned (OpenSpec.ofChange profileHoldsWrong)

/-- 'chargenetlaw15.ProfileRecurs': WHATEVER THE INPUT: true; the input reads as it did. -/
def profileRecursSpec : ChangeSpec := { name := "profileRecurs", fn := fun _ => fun
  | [d1, d2, d3] => { results := [.lit (.bool true)], args := [d1, d2, d3] }
  | _ => none }
def profileRecursRow : OpenClaim := { program := "ytldekibkmombdaa", sum := "37a3ba73049907b8d9cdf510debdfc89d953441dec6c6eec5428984848bf4dac", func := "chargenet/chargenetlaw15.ProfileRecurs", spec := "profileRecurs", recurses := true, apart := false }
def ProfileRecursSaid : Prop := profileRecursRow.holds Try.pinned (OpenSpec.ofChange profileRecursSpec)

/-- ITS FALSE NEIGHBOUR: 'it returns false'. Refute it at one input. -/
def profileRecursWrong : ChangeSpec := { name := "profileRecurs", fn := fun _ => fun
  | [d1, d2, d3] => { results := [.lit (.bool false)], args := [d1, d2, d3] }
  | _ => none }
def ProfileRecursWrongFalsely : Prop := profileRecursRow.holds Try.pinned (OpenSpec.ofChange profileRecursWrong)

/- THE SECOND FORM. 'bulk': how many values and letters a reading holds, each counted each time it is reached (what is shared counts as often as it is met; a slice's spare places count too). A statement '..UptoSaid' is the law's where the arguments, and the package variables that the reading takes, are together of bulk at most 1048576: NARROWER than '..Said'. Prove '..Said' where nothing that the law and all that it calls make is longer than what came in: it says more and counts as full. Else prove '..UptoSaid'. A law counts once. -/
mutual
def uptoBulk {H : Type} : DataW H → Nat
  | .lit (.string bytes) => bytes.length + 1
  | .lit _ => 1
  | .nil => 1
  | .ptr d => uptoBulk d + 1
  | .slice elems spare => uptoBulkAll elems + uptoBulkAll spare + 1
  | .agg parts => uptoBulkAll parts + 1
  | .iface _ d => uptoBulk d + 1
  | .map entries => uptoBulkEntries entries + 1
  | .held _ => 1
def uptoBulkAll {H : Type} : List (DataW H) → Nat
  | [] => 0
  | d :: r => uptoBulk d + uptoBulkAll r
def uptoBulkEntries {H : Type} : List (Lit × DataW H) → Nat
  | [] => 0
  | x :: r => uptoBulkEntry x + uptoBulkEntries r
def uptoBulkEntry {H : Type} : Lit × DataW H → Nat
  | (.string bytes, d) => bytes.length + uptoBulk d + 1
  | (_, d) => uptoBulk d + 1
 end
def uptoSmall : (H : Type) → List (DataW H) → Bool := fun _ ds => decide (uptoBulkAll ds ≤ 1048576)
def OpenSpec.upto (s : _root_.Go.ChangeSpec) : _root_.Go.OpenSpec := { _root_.Go.OpenSpec.ofChange s with cond := some uptoSmall }

/-- 'chargenetlaw15.ProfileValids', WHERE WHAT IT READS IS OF BULK AT MOST 1048576: true; the input reads as it did. -/
def profileValidsUptoRow : OpenClaim := { program := "ytldekibkmombdaa", sum := "37a3ba73049907b8d9cdf510debdfc89d953441dec6c6eec5428984848bf4dac", func := "chargenet/chargenetlaw15.ProfileValids", spec := "profileValids", recurses := true, apart := false, narrowed := true }
def ProfileValidsUptoSaid : Prop := profileValidsUptoRow.holds Try.pinned (OpenSpec.upto profileValidsSpec)

/-- 'chargenetlaw15.ProfilePuts', WHERE WHAT IT READS IS OF BULK AT MOST 1048576: true; the input reads as it did. -/
def profilePutsUptoRow : OpenClaim := { program := "ytldekibkmombdaa", sum := "37a3ba73049907b8d9cdf510debdfc89d953441dec6c6eec5428984848bf4dac", func := "chargenet/chargenetlaw15.ProfilePuts", spec := "profilePuts", recurses := true, apart := false, narrowed := true }
def ProfilePutsUptoSaid : Prop := profilePutsUptoRow.holds Try.pinned (OpenSpec.upto profilePutsSpec)

/-- 'chargenetlaw15.ProfileClears', WHERE WHAT IT READS IS OF BULK AT MOST 1048576: true; the input reads as it did. -/
def profileClearsUptoRow : OpenClaim := { program := "ytldekibkmombdaa", sum := "37a3ba73049907b8d9cdf510debdfc89d953441dec6c6eec5428984848bf4dac", func := "chargenet/chargenetlaw15.ProfileClears", spec := "profileClears", recurses := true, apart := false, narrowed := true }
def ProfileClearsUptoSaid : Prop := profileClearsUptoRow.holds Try.pinned (OpenSpec.upto profileClearsSpec)

/-- 'chargenetlaw15.ProfileUnique', WHERE WHAT IT READS IS OF BULK AT MOST 1048576: true; the input reads as it did. -/
def profileUniqueUptoRow : OpenClaim := { program := "ytldekibkmombdaa", sum := "37a3ba73049907b8d9cdf510debdfc89d953441dec6c6eec5428984848bf4dac", func := "chargenet/chargenetlaw15.ProfileUnique", spec := "profileUnique", recurses := true, apart := false, narrowed := true }
def ProfileUniqueUptoSaid : Prop := profileUniqueUptoRow.holds Try.pinned (OpenSpec.upto profileUniqueSpec)

/-- 'chargenetlaw15.ProfileLimits', WHERE WHAT IT READS IS OF BULK AT MOST 1048576: true; the input reads as it did. -/
def profileLimitsUptoRow : OpenClaim := { program := "ytldekibkmombdaa", sum := "37a3ba73049907b8d9cdf510debdfc89d953441dec6c6eec5428984848bf4dac", func := "chargenet/chargenetlaw15.ProfileLimits", spec := "profileLimits", recurses := true, apart := false, narrowed := true }
def ProfileLimitsUptoSaid : Prop := profileLimitsUptoRow.holds Try.pinned (OpenSpec.upto profileLimitsSpec)

/-- 'chargenetlaw15.ProfileNexts', WHERE WHAT IT READS IS OF BULK AT MOST 1048576: true; the input reads as it did. -/
def profileNextsUptoRow : OpenClaim := { program := "ytldekibkmombdaa", sum := "37a3ba73049907b8d9cdf510debdfc89d953441dec6c6eec5428984848bf4dac", func := "chargenet/chargenetlaw15.ProfileNexts", spec := "profileNexts", recurses := true, apart := false, narrowed := true }
def ProfileNextsUptoSaid : Prop := profileNextsUptoRow.holds Try.pinned (OpenSpec.upto profileNextsSpec)

/-- 'chargenetlaw15.ProfileHolds', WHERE WHAT IT READS IS OF BULK AT MOST 1048576: true; the input reads as it did. -/
def profileHoldsUptoRow : OpenClaim := { program := "ytldekibkmombdaa", sum := "37a3ba73049907b8d9cdf510debdfc89d953441dec6c6eec5428984848bf4dac", func := "chargenet/chargenetlaw15.ProfileHolds", spec := "profileHolds", recurses := true, apart := false, narrowed := true }
def ProfileHoldsUptoSaid : Prop := profileHoldsUptoRow.holds Try.pinned (OpenSpec.upto profileHoldsSpec)

/-- 'chargenetlaw15.ProfileRecurs', WHERE WHAT IT READS IS OF BULK AT MOST 1048576: true; the input reads as it did. -/
def profileRecursUptoRow : OpenClaim := { program := "ytldekibkmombdaa", sum := "37a3ba73049907b8d9cdf510debdfc89d953441dec6c6eec5428984848bf4dac", func := "chargenet/chargenetlaw15.ProfileRecurs", spec := "profileRecurs", recurses := true, apart := false, narrowed := true }
def ProfileRecursUptoSaid : Prop := profileRecursUptoRow.holds Try.pinned (OpenSpec.upto profileRecursSpec)

end Rows
end Go.Proofs.Ytldekibkmombdaa
