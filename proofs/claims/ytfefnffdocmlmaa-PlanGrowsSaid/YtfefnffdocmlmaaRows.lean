/-
  No cell of these rows narrows 'for every input' (looked for: loops, veiled, ifaces, maps, wideKeys, modest, calm, conditions, laid).
  DERIVED. THE GIVEN ROWS OF THIS SEAT. 7 by the template 'for every input the law returns true; each argument reads behind the call as it read before'; 0 by the template 'total and deterministic' (their statements: YtfefnffdocmlmaaTotals.lean).
  GIVEN WITH THE SEED: the statements are not yours to turn. If you find one false, say at which input.
  Laid BY PROGRAM, IN A SANDBOX (cutbox-rows.mjs): the forced cells as the released guide's own fill.sh prints them over the translation 64e8f7854276f219… (all of the seat's roots in one cut). By AI agents, Wed Nov 11 2026. No macro, syntax, notation, axiom, sorry.
-/
import Derived.Test.YtfefnffdocmlmaaChecked
import GoSem.Claim
import GoSem.ClaimJoined
import GoSem.ClaimMapViews
import Derived.JoinedTies
import Derived.KernelRfl
namespace Go.Proofs.Ytfefnffdocmlmaa
/- THE CELL 'sum', in the pinned program and in every row, IS THE sha256 OF THE DUMP (.gsa) THAT YtfefnffdocmlmaaProg.lean LOADS. Nothing in Lean hashes anything: it is a label: what it is worth is what the hold of that sum in a sandbox is worth. -/
noncomputable def Try.pinned : Pinned := { name := "ytfefnffdocmlmaa", sum := "64e8f7854276f2198a72374d5ff536e2a3e0c99eaa21a7ada657e5da0eea5e6d", checked := Try.checked }
namespace Rows
def none {H : Type} : Left H := { results := [], args := [] }

/-- 'chargenetlaw18.PlanValids': WHATEVER THE INPUT: true; the input reads as it did. -/
def planValidsSpec : ChangeSpec := { name := "planValids", fn := fun _ => fun
  | [d] => { results := [.lit (.bool true)], args := [d] }
  | _ => none }
def planValidsRow : OpenClaim := { program := "ytfefnffdocmlmaa", sum := "64e8f7854276f2198a72374d5ff536e2a3e0c99eaa21a7ada657e5da0eea5e6d", func := "chargenet/chargenetlaw18.PlanValids", spec := "planValids", unfollowed := true, recurses := true, apart := false }
def PlanValidsSaid : Prop := planValidsRow.holds Try.pinned (OpenSpec.ofChange planValidsSpec)

/-- ITS FALSE NEIGHBOUR: 'it returns false'. Refute it at one input. -/
def planValidsWrong : ChangeSpec := { name := "planValids", fn := fun _ => fun
  | [d] => { results := [.lit (.bool false)], args := [d] }
  | _ => none }
def PlanValidsWrongFalsely : Prop := planValidsRow.holds Try.pinned (OpenSpec.ofChange planValidsWrong)

/-- 'chargenetlaw18.PlanFeasibles': WHATEVER THE INPUT: true; the input reads as it did. -/
def planFeasiblesSpec : ChangeSpec := { name := "planFeasibles", fn := fun _ => fun
  | [d1, d2] => { results := [.lit (.bool true)], args := [d1, d2] }
  | _ => none }
def planFeasiblesRow : OpenClaim := { program := "ytfefnffdocmlmaa", sum := "64e8f7854276f2198a72374d5ff536e2a3e0c99eaa21a7ada657e5da0eea5e6d", func := "chargenet/chargenetlaw18.PlanFeasibles", spec := "planFeasibles", unfollowed := true, recurses := true, apart := false }
def PlanFeasiblesSaid : Prop := planFeasiblesRow.holds Try.pinned (OpenSpec.ofChange planFeasiblesSpec)

/-- ITS FALSE NEIGHBOUR: 'it returns false'. Refute it at one input. -/
def planFeasiblesWrong : ChangeSpec := { name := "planFeasibles", fn := fun _ => fun
  | [d1, d2] => { results := [.lit (.bool false)], args := [d1, d2] }
  | _ => none }
def PlanFeasiblesWrongFalsely : Prop := planFeasiblesRow.holds Try.pinned (OpenSpec.ofChange planFeasiblesWrong)

/-- 'chargenetlaw18.PlanFairs': WHATEVER THE INPUT: true; the input reads as it did. -/
def planFairsSpec : ChangeSpec := { name := "planFairs", fn := fun _ => fun
  | [d] => { results := [.lit (.bool true)], args := [d] }
  | _ => none }
def planFairsRow : OpenClaim := { program := "ytfefnffdocmlmaa", sum := "64e8f7854276f2198a72374d5ff536e2a3e0c99eaa21a7ada657e5da0eea5e6d", func := "chargenet/chargenetlaw18.PlanFairs", spec := "planFairs", unfollowed := true, recurses := true, apart := false }
def PlanFairsSaid : Prop := planFairsRow.holds Try.pinned (OpenSpec.ofChange planFairsSpec)

/-- ITS FALSE NEIGHBOUR: 'it returns false'. Refute it at one input. -/
def planFairsWrong : ChangeSpec := { name := "planFairs", fn := fun _ => fun
  | [d] => { results := [.lit (.bool false)], args := [d] }
  | _ => none }
def PlanFairsWrongFalsely : Prop := planFairsRow.holds Try.pinned (OpenSpec.ofChange planFairsWrong)

/-- 'chargenetlaw18.PlanTight': WHATEVER THE INPUT: true; the input reads as it did. -/
def planTightSpec : ChangeSpec := { name := "planTight", fn := fun _ => fun
  | [d] => { results := [.lit (.bool true)], args := [d] }
  | _ => none }
def planTightRow : OpenClaim := { program := "ytfefnffdocmlmaa", sum := "64e8f7854276f2198a72374d5ff536e2a3e0c99eaa21a7ada657e5da0eea5e6d", func := "chargenet/chargenetlaw18.PlanTight", spec := "planTight", unfollowed := true, recurses := true, apart := false }
def PlanTightSaid : Prop := planTightRow.holds Try.pinned (OpenSpec.ofChange planTightSpec)

/-- ITS FALSE NEIGHBOUR: 'it returns false'. Refute it at one input. -/
def planTightWrong : ChangeSpec := { name := "planTight", fn := fun _ => fun
  | [d] => { results := [.lit (.bool false)], args := [d] }
  | _ => none }
def PlanTightWrongFalsely : Prop := planTightRow.holds Try.pinned (OpenSpec.ofChange planTightWrong)

/-- 'chargenetlaw18.PlanGrows': WHATEVER THE INPUT: true; the input reads as it did. -/
def planGrowsSpec : ChangeSpec := { name := "planGrows", fn := fun _ => fun
  | [d1, d2, d3] => { results := [.lit (.bool true)], args := [d1, d2, d3] }
  | _ => none }
def planGrowsRow : OpenClaim := { program := "ytfefnffdocmlmaa", sum := "64e8f7854276f2198a72374d5ff536e2a3e0c99eaa21a7ada657e5da0eea5e6d", func := "chargenet/chargenetlaw18.PlanGrows", spec := "planGrows", unfollowed := true, recurses := true, apart := false }
def PlanGrowsSaid : Prop := planGrowsRow.holds Try.pinned (OpenSpec.ofChange planGrowsSpec)

/-- ITS FALSE NEIGHBOUR: 'it returns false'. Refute it at one input. -/
def planGrowsWrong : ChangeSpec := { name := "planGrows", fn := fun _ => fun
  | [d1, d2, d3] => { results := [.lit (.bool false)], args := [d1, d2, d3] }
  | _ => none }
def PlanGrowsWrongFalsely : Prop := planGrowsRow.holds Try.pinned (OpenSpec.ofChange planGrowsWrong)

/-- 'chargenetlaw18.PlanSchedules': WHATEVER THE INPUT: true; the input reads as it did. -/
def planSchedulesSpec : ChangeSpec := { name := "planSchedules", fn := fun _ => fun
  | [d1, d2] => { results := [.lit (.bool true)], args := [d1, d2] }
  | _ => none }
def planSchedulesRow : OpenClaim := { program := "ytfefnffdocmlmaa", sum := "64e8f7854276f2198a72374d5ff536e2a3e0c99eaa21a7ada657e5da0eea5e6d", func := "chargenet/chargenetlaw18.PlanSchedules", spec := "planSchedules", unfollowed := true, recurses := true, apart := false }
def PlanSchedulesSaid : Prop := planSchedulesRow.holds Try.pinned (OpenSpec.ofChange planSchedulesSpec)

/-- ITS FALSE NEIGHBOUR: 'it returns false'. Refute it at one input. -/
def planSchedulesWrong : ChangeSpec := { name := "planSchedules", fn := fun _ => fun
  | [d1, d2] => { results := [.lit (.bool false)], args := [d1, d2] }
  | _ => none }
def PlanSchedulesWrongFalsely : Prop := planSchedulesRow.holds Try.pinned (OpenSpec.ofChange planSchedulesWrong)

/-- 'chargenetlaw18.PlanChecks': WHATEVER THE INPUT: true; the input reads as it did. -/
def planChecksSpec : ChangeSpec := { name := "planChecks", fn := fun _ => fun
  | [d1, d2, d3] => { results := [.lit (.bool true)], args := [d1, d2, d3] }
  | _ => none }
def planChecksRow : OpenClaim := { program := "ytfefnffdocmlmaa", sum := "64e8f7854276f2198a72374d5ff536e2a3e0c99eaa21a7ada657e5da0eea5e6d", func := "chargenet/chargenetlaw18.PlanChecks", spec := "planChecks", unfollowed := true, recurses := true, apart := false }
def PlanChecksSaid : Prop := planChecksRow.holds Try.pinned (OpenSpec.ofChange planChecksSpec)

/-- ITS FALSE NEIGHBOUR: 'it returns false'. Refute it at one input. -/
def planChecksWrong : ChangeSpec := { name := "planChecks", fn := fun _ => fun
  | [d1, d2, d3] => { results := [.lit (.bool false)], args := [d1, d2, d3] }
  | _ => none }
def PlanChecksWrongFalsely : Prop := planChecksRow.holds Try.pinned (OpenSpec.ofChange planChecksWrong)

/- THE SECOND FORM. 'bulk': how many values and letters a reading holds, each counted each time it is reached (what is shared counts as often as it is met; a slice's spare places count too). A statement '..UptoSaid' is the law's where the arguments, and the package variables that the reading takes, are together of bulk at most 1048576: NARROWER than '..Said'. Prove '..Said' where nothing that the law and all that it calls make is longer than what came in: it says more and counts as full. Else prove '..UptoSaid'. A law counts once. -/
mutual
def uptoBulk {H : Type} : DataW H → Nat
  | .lit (.string bytes) => bytes.length + 1
  | .lit _ => 1
  | .nil => 1
  | .ptr d => uptoBulk d + 1
  | .slice elems spare => uptoBulkAll elems + uptoBulkAll spare + 1
  | .agg parts => uptoBulkAll parts + 1
  | .iface _ d => uptoBulk d + 1
  | .map entries => uptoBulkEntries entries + 1
  | .held _ => 1
def uptoBulkAll {H : Type} : List (DataW H) → Nat
  | [] => 0
  | d :: r => uptoBulk d + uptoBulkAll r
def uptoBulkEntries {H : Type} : List (Lit × DataW H) → Nat
  | [] => 0
  | x :: r => uptoBulkEntry x + uptoBulkEntries r
def uptoBulkEntry {H : Type} : Lit × DataW H → Nat
  | (.string bytes, d) => bytes.length + uptoBulk d + 1
  | (_, d) => uptoBulk d + 1
 end
def uptoSmall : (H : Type) → List (DataW H) → Bool := fun _ ds => decide (uptoBulkAll ds ≤ 1048576)
def OpenSpec.upto (s : _root_.Go.ChangeSpec) : _root_.Go.OpenSpec := { _root_.Go.OpenSpec.ofChange s with cond := some uptoSmall }

/-- 'chargenetlaw18.PlanValids', WHERE WHAT IT READS IS OF BULK AT MOST 1048576: true; the input reads as it did. -/
def planValidsUptoRow : OpenClaim := { program := "ytfefnffdocmlmaa", sum := "64e8f7854276f2198a72374d5ff536e2a3e0c99eaa21a7ada657e5da0eea5e6d", func := "chargenet/chargenetlaw18.PlanValids", spec := "planValids", unfollowed := true, recurses := true, apart := false, narrowed := true }
def PlanValidsUptoSaid : Prop := planValidsUptoRow.holds Try.pinned (OpenSpec.upto planValidsSpec)

/-- 'chargenetlaw18.PlanFeasibles', WHERE WHAT IT READS IS OF BULK AT MOST 1048576: true; the input reads as it did. -/
def planFeasiblesUptoRow : OpenClaim := { program := "ytfefnffdocmlmaa", sum := "64e8f7854276f2198a72374d5ff536e2a3e0c99eaa21a7ada657e5da0eea5e6d", func := "chargenet/chargenetlaw18.PlanFeasibles", spec := "planFeasibles", unfollowed := true, recurses := true, apart := false, narrowed := true }
def PlanFeasiblesUptoSaid : Prop := planFeasiblesUptoRow.holds Try.pinned (OpenSpec.upto planFeasiblesSpec)

/-- 'chargenetlaw18.PlanFairs', WHERE WHAT IT READS IS OF BULK AT MOST 1048576: true; the input reads as it did. -/
def planFairsUptoRow : OpenClaim := { program := "ytfefnffdocmlmaa", sum := "64e8f7854276f2198a72374d5ff536e2a3e0c99eaa21a7ada657e5da0eea5e6d", func := "chargenet/chargenetlaw18.PlanFairs", spec := "planFairs", unfollowed := true, recurses := true, apart := false, narrowed := true }
def PlanFairsUptoSaid : Prop := planFairsUptoRow.holds Try.pinned (OpenSpec.upto planFairsSpec)

/-- 'chargenetlaw18.PlanTight', WHERE WHAT IT READS IS OF BULK AT MOST 1048576: true; the input reads as it did. -/
def planTightUptoRow : OpenClaim := { program := "ytfefnffdocmlmaa", sum := "64e8f7854276f2198a72374d5ff536e2a3e0c99eaa21a7ada657e5da0eea5e6d", func := "chargenet/chargenetlaw18.PlanTight", spec := "planTight", unfollowed := true, recurses := true, apart := false, narrowed := true }
def PlanTightUptoSaid : Prop := planTightUptoRow.holds Try.pinned (OpenSpec.upto planTightSpec)

/-- 'chargenetlaw18.PlanGrows', WHERE WHAT IT READS IS OF BULK AT MOST 1048576: true; the input reads as it did. -/
def planGrowsUptoRow : OpenClaim := { program := "ytfefnffdocmlmaa", sum := "64e8f7854276f2198a72374d5ff536e2a3e0c99eaa21a7ada657e5da0eea5e6d", func := "chargenet/chargenetlaw18.PlanGrows", spec := "planGrows", unfollowed := true, recurses := true, apart := false, narrowed := true }
def PlanGrowsUptoSaid : Prop := planGrowsUptoRow.holds Try.pinned (OpenSpec.upto planGrowsSpec)

/-- 'chargenetlaw18.PlanSchedules', WHERE WHAT IT READS IS OF BULK AT MOST 1048576: true; the input reads as it did. -/
def planSchedulesUptoRow : OpenClaim := { program := "ytfefnffdocmlmaa", sum := "64e8f7854276f2198a72374d5ff536e2a3e0c99eaa21a7ada657e5da0eea5e6d", func := "chargenet/chargenetlaw18.PlanSchedules", spec := "planSchedules", unfollowed := true, recurses := true, apart := false, narrowed := true }
def PlanSchedulesUptoSaid : Prop := planSchedulesUptoRow.holds Try.pinned (OpenSpec.upto planSchedulesSpec)

/-- 'chargenetlaw18.PlanChecks', WHERE WHAT IT READS IS OF BULK AT MOST 1048576: true; the input reads as it did. -/
def planChecksUptoRow : OpenClaim := { program := "ytfefnffdocmlmaa", sum := "64e8f7854276f2198a72374d5ff536e2a3e0c99eaa21a7ada657e5da0eea5e6d", func := "chargenet/chargenetlaw18.PlanChecks", spec := "planChecks", unfollowed := true, recurses := true, apart := false, narrowed := true }
def PlanChecksUptoSaid : Prop := planChecksUptoRow.holds Try.pinned (OpenSpec.upto planChecksSpec)

end Rows
end Go.Proofs.Ytfefnffdocmlmaa
