/-
  No cell of these rows narrows 'for every input' (looked for: loops, veiled, ifaces, maps, wideKeys, modest, calm, conditions, laid).
  DERIVED. THE GIVEN ROWS OF THIS SEAT. 6 by the template 'for every input the law returns true; each argument reads behind the call as it read before'; 0 by the template 'total and deterministic' (their statements: YtcccjpkfifefaaaTotals.lean).
  GIVEN WITH THE SEED: the statements are not yours to turn. If you find one false, say at which input.
  Laid BY PROGRAM, IN A SANDBOX (cutbox-rows.mjs): the forced cells as the released guide's own fill.sh prints them over the translation 800f9f0103ab55dd… (all of the seat's roots in one cut). By AI agents, Wed Nov 11 2026. No macro, syntax, notation, axiom, sorry.
-/
import Derived.Test.YtcccjpkfifefaaaChecked
import GoSem.Claim
import GoSem.ClaimJoined
import GoSem.ClaimMapViews
import Derived.JoinedTies
import Derived.KernelRfl
namespace Go.Proofs.Ytcccjpkfifefaaa
/- THE CELL 'sum', in the pinned program and in every row, IS THE sha256 OF THE DUMP (.gsa) THAT YtcccjpkfifefaaaProg.lean LOADS. Nothing in Lean hashes anything: it is a label: what it is worth is what the hold of that sum in a sandbox is worth. -/
noncomputable def Try.pinned : Pinned := { name := "ytcccjpkfifefaaa", sum := "800f9f0103ab55dd6536da94328fdbc6e5af6839de15ec6511bba52f58cf3356", checked := Try.checked }
namespace Rows
def none {H : Type} : Left H := { results := [], args := [] }

/-- 'chargenetlaw13.CurtailValid': WHATEVER THE INPUT: true; the input reads as it did. -/
def curtailValidSpec : ChangeSpec := { name := "curtailValid", fn := fun _ => fun
  | [d1, d2] => { results := [.lit (.bool true)], args := [d1, d2] }
  | _ => none }
def curtailValidRow : OpenClaim := { program := "ytcccjpkfifefaaa", sum := "800f9f0103ab55dd6536da94328fdbc6e5af6839de15ec6511bba52f58cf3356", func := "chargenet/chargenetlaw13.CurtailValid", spec := "curtailValid", recurses := true, apart := false }
def CurtailValidSaid : Prop := curtailValidRow.holds Try.pinned (OpenSpec.ofChange curtailValidSpec)

/-- ITS FALSE NEIGHBOUR: 'it returns false'. Refute it at one input. -/
def curtailValidWrong : ChangeSpec := { name := "curtailValid", fn := fun _ => fun
  | [d1, d2] => { results := [.lit (.bool false)], args := [d1, d2] }
  | _ => none }
def CurtailValidWrongFalsely : Prop := curtailValidRow.holds Try.pinned (OpenSpec.ofChange curtailValidWrong)

/-- 'chargenetlaw13.CurtailPut': WHATEVER THE INPUT: true; the input reads as it did. -/
def curtailPutSpec : ChangeSpec := { name := "curtailPut", fn := fun _ => fun
  | [d] => { results := [.lit (.bool true)], args := [d] }
  | _ => none }
def curtailPutRow : OpenClaim := { program := "ytcccjpkfifefaaa", sum := "800f9f0103ab55dd6536da94328fdbc6e5af6839de15ec6511bba52f58cf3356", func := "chargenet/chargenetlaw13.CurtailPut", spec := "curtailPut", recurses := true, apart := false }
def CurtailPutSaid : Prop := curtailPutRow.holds Try.pinned (OpenSpec.ofChange curtailPutSpec)

/-- ITS FALSE NEIGHBOUR: 'it returns false'. Refute it at one input. -/
def curtailPutWrong : ChangeSpec := { name := "curtailPut", fn := fun _ => fun
  | [d] => { results := [.lit (.bool false)], args := [d] }
  | _ => none }
def CurtailPutWrongFalsely : Prop := curtailPutRow.holds Try.pinned (OpenSpec.ofChange curtailPutWrong)

/-- 'chargenetlaw13.CurtailAt': WHATEVER THE INPUT: true; the input reads as it did. -/
def curtailAtSpec : ChangeSpec := { name := "curtailAt", fn := fun _ => fun
  | [d1, d2, d3] => { results := [.lit (.bool true)], args := [d1, d2, d3] }
  | _ => none }
def curtailAtRow : OpenClaim := { program := "ytcccjpkfifefaaa", sum := "800f9f0103ab55dd6536da94328fdbc6e5af6839de15ec6511bba52f58cf3356", func := "chargenet/chargenetlaw13.CurtailAt", spec := "curtailAt", recurses := true, apart := false }
def CurtailAtSaid : Prop := curtailAtRow.holds Try.pinned (OpenSpec.ofChange curtailAtSpec)

/-- ITS FALSE NEIGHBOUR: 'it returns false'. Refute it at one input. -/
def curtailAtWrong : ChangeSpec := { name := "curtailAt", fn := fun _ => fun
  | [d1, d2, d3] => { results := [.lit (.bool false)], args := [d1, d2, d3] }
  | _ => none }
def CurtailAtWrongFalsely : Prop := curtailAtRow.holds Try.pinned (OpenSpec.ofChange curtailAtWrong)

/-- 'chargenetlaw13.CurtailNext': WHATEVER THE INPUT: true; the input reads as it did. -/
def curtailNextSpec : ChangeSpec := { name := "curtailNext", fn := fun _ => fun
  | [d1, d2, d3] => { results := [.lit (.bool true)], args := [d1, d2, d3] }
  | _ => none }
def curtailNextRow : OpenClaim := { program := "ytcccjpkfifefaaa", sum := "800f9f0103ab55dd6536da94328fdbc6e5af6839de15ec6511bba52f58cf3356", func := "chargenet/chargenetlaw13.CurtailNext", spec := "curtailNext", recurses := true, apart := false }
def CurtailNextSaid : Prop := curtailNextRow.holds Try.pinned (OpenSpec.ofChange curtailNextSpec)

/-- ITS FALSE NEIGHBOUR: 'it returns false'. Refute it at one input. -/
def curtailNextWrong : ChangeSpec := { name := "curtailNext", fn := fun _ => fun
  | [d1, d2, d3] => { results := [.lit (.bool false)], args := [d1, d2, d3] }
  | _ => none }
def CurtailNextWrongFalsely : Prop := curtailNextRow.holds Try.pinned (OpenSpec.ofChange curtailNextWrong)

/-- 'chargenetlaw13.CurtailOrder': WHATEVER THE INPUT: true; the input reads as it did. -/
def curtailOrderSpec : ChangeSpec := { name := "curtailOrder", fn := fun _ => fun
  | [d1, d2] => { results := [.lit (.bool true)], args := [d1, d2] }
  | _ => none }
def curtailOrderRow : OpenClaim := { program := "ytcccjpkfifefaaa", sum := "800f9f0103ab55dd6536da94328fdbc6e5af6839de15ec6511bba52f58cf3356", func := "chargenet/chargenetlaw13.CurtailOrder", spec := "curtailOrder", recurses := true, apart := false }
def CurtailOrderSaid : Prop := curtailOrderRow.holds Try.pinned (OpenSpec.ofChange curtailOrderSpec)

/-- ITS FALSE NEIGHBOUR: 'it returns false'. Refute it at one input. -/
def curtailOrderWrong : ChangeSpec := { name := "curtailOrder", fn := fun _ => fun
  | [d1, d2] => { results := [.lit (.bool false)], args := [d1, d2] }
  | _ => none }
def CurtailOrderWrongFalsely : Prop := curtailOrderRow.holds Try.pinned (OpenSpec.ofChange curtailOrderWrong)

/-- 'chargenetlaw13.CurtailCancel': WHATEVER THE INPUT: true; the input reads as it did. -/
def curtailCancelSpec : ChangeSpec := { name := "curtailCancel", fn := fun _ => fun
  | [d1, d2, d3, d4] => { results := [.lit (.bool true)], args := [d1, d2, d3, d4] }
  | _ => none }
def curtailCancelRow : OpenClaim := { program := "ytcccjpkfifefaaa", sum := "800f9f0103ab55dd6536da94328fdbc6e5af6839de15ec6511bba52f58cf3356", func := "chargenet/chargenetlaw13.CurtailCancel", spec := "curtailCancel", unfollowed := true, recurses := true, apart := false }
def CurtailCancelSaid : Prop := curtailCancelRow.holds Try.pinned (OpenSpec.ofChange curtailCancelSpec)

/-- ITS FALSE NEIGHBOUR: 'it returns false'. Refute it at one input. -/
def curtailCancelWrong : ChangeSpec := { name := "curtailCancel", fn := fun _ => fun
  | [d1, d2, d3, d4] => { results := [.lit (.bool false)], args := [d1, d2, d3, d4] }
  | _ => none }
def CurtailCancelWrongFalsely : Prop := curtailCancelRow.holds Try.pinned (OpenSpec.ofChange curtailCancelWrong)

/- THE SECOND FORM. 'bulk': how many values and letters a reading holds, each counted each time it is reached (what is shared counts as often as it is met; a slice's spare places count too). A statement '..UptoSaid' is the law's where the arguments, and the package variables that the reading takes, are together of bulk at most 1048576: NARROWER than '..Said'. Prove '..Said' where nothing that the law and all that it calls make is longer than what came in: it says more and counts as full. Else prove '..UptoSaid'. A law counts once. -/
mutual
def uptoBulk {H : Type} : DataW H → Nat
  | .lit (.string bytes) => bytes.length + 1
  | .lit _ => 1
  | .nil => 1
  | .ptr d => uptoBulk d + 1
  | .slice elems spare => uptoBulkAll elems + uptoBulkAll spare + 1
  | .agg parts => uptoBulkAll parts + 1
  | .iface _ d => uptoBulk d + 1
  | .map entries => uptoBulkEntries entries + 1
  | .held _ => 1
def uptoBulkAll {H : Type} : List (DataW H) → Nat
  | [] => 0
  | d :: r => uptoBulk d + uptoBulkAll r
def uptoBulkEntries {H : Type} : List (Lit × DataW H) → Nat
  | [] => 0
  | x :: r => uptoBulkEntry x + uptoBulkEntries r
def uptoBulkEntry {H : Type} : Lit × DataW H → Nat
  | (.string bytes, d) => bytes.length + uptoBulk d + 1
  | (_, d) => uptoBulk d + 1
 end
def uptoSmall : (H : Type) → List (DataW H) → Bool := fun _ ds => decide (uptoBulkAll ds ≤ 1048576)
def OpenSpec.upto (s : _root_.Go.ChangeSpec) : _root_.Go.OpenSpec := { _root_.Go.OpenSpec.ofChange s with cond := some uptoSmall }

/-- 'chargenetlaw13.CurtailValid', WHERE WHAT IT READS IS OF BULK AT MOST 1048576: true; the input reads as it did. -/
def curtailValidUptoRow : OpenClaim := { program := "ytcccjpkfifefaaa", sum := "800f9f0103ab55dd6536da94328fdbc6e5af6839de15ec6511bba52f58cf3356", func := "chargenet/chargenetlaw13.CurtailValid", spec := "curtailValid", recurses := true, apart := false, narrowed := true }
def CurtailValidUptoSaid : Prop := curtailValidUptoRow.holds Try.pinned (OpenSpec.upto curtailValidSpec)

/-- 'chargenetlaw13.CurtailPut', WHERE WHAT IT READS IS OF BULK AT MOST 1048576: true; the input reads as it did. -/
def curtailPutUptoRow : OpenClaim := { program := "ytcccjpkfifefaaa", sum := "800f9f0103ab55dd6536da94328fdbc6e5af6839de15ec6511bba52f58cf3356", func := "chargenet/chargenetlaw13.CurtailPut", spec := "curtailPut", recurses := true, apart := false, narrowed := true }
def CurtailPutUptoSaid : Prop := curtailPutUptoRow.holds Try.pinned (OpenSpec.upto curtailPutSpec)

/-- 'chargenetlaw13.CurtailAt', WHERE WHAT IT READS IS OF BULK AT MOST 1048576: true; the input reads as it did. -/
def curtailAtUptoRow : OpenClaim := { program := "ytcccjpkfifefaaa", sum := "800f9f0103ab55dd6536da94328fdbc6e5af6839de15ec6511bba52f58cf3356", func := "chargenet/chargenetlaw13.CurtailAt", spec := "curtailAt", recurses := true, apart := false, narrowed := true }
def CurtailAtUptoSaid : Prop := curtailAtUptoRow.holds Try.pinned (OpenSpec.upto curtailAtSpec)

/-- 'chargenetlaw13.CurtailNext', WHERE WHAT IT READS IS OF BULK AT MOST 1048576: true; the input reads as it did. -/
def curtailNextUptoRow : OpenClaim := { program := "ytcccjpkfifefaaa", sum := "800f9f0103ab55dd6536da94328fdbc6e5af6839de15ec6511bba52f58cf3356", func := "chargenet/chargenetlaw13.CurtailNext", spec := "curtailNext", recurses := true, apart := false, narrowed := true }
def CurtailNextUptoSaid : Prop := curtailNextUptoRow.holds Try.pinned (OpenSpec.upto curtailNextSpec)

/-- 'chargenetlaw13.CurtailOrder', WHERE WHAT IT READS IS OF BULK AT MOST 1048576: true; the input reads as it did. -/
def curtailOrderUptoRow : OpenClaim := { program := "ytcccjpkfifefaaa", sum := "800f9f0103ab55dd6536da94328fdbc6e5af6839de15ec6511bba52f58cf3356", func := "chargenet/chargenetlaw13.CurtailOrder", spec := "curtailOrder", recurses := true, apart := false, narrowed := true }
def CurtailOrderUptoSaid : Prop := curtailOrderUptoRow.holds Try.pinned (OpenSpec.upto curtailOrderSpec)

/-- 'chargenetlaw13.CurtailCancel', WHERE WHAT IT READS IS OF BULK AT MOST 1048576: true; the input reads as it did. -/
def curtailCancelUptoRow : OpenClaim := { program := "ytcccjpkfifefaaa", sum := "800f9f0103ab55dd6536da94328fdbc6e5af6839de15ec6511bba52f58cf3356", func := "chargenet/chargenetlaw13.CurtailCancel", spec := "curtailCancel", unfollowed := true, recurses := true, apart := false, narrowed := true }
def CurtailCancelUptoSaid : Prop := curtailCancelUptoRow.holds Try.pinned (OpenSpec.upto curtailCancelSpec)

end Rows
end Go.Proofs.Ytcccjpkfifefaaa
