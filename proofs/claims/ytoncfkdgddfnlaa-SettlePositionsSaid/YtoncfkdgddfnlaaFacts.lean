/- Written by a program of ours (wip/eng/gen.py): closed facts on the types; the cells of the structures. -/
import Derived.Test.YtoncfkdgddfnlaaModel
import Derived.Test.YtoncfkdgddfnlaaProg
import Derived.KernelRfl
namespace Go.Proofs.Ytoncfkdgddfnlaa.W
open Go Go.Proofs Go.Proofs.Ytoncfkdgddfnlaa.E Go.Proofs.Ytoncfkdgddfnlaa.M
set_option linter.unusedVariables false
def cSBalance (x : SBalance) (j : Nat) : Cell := match j with
  | 0 => .str x.Creditor
  | 1 => .str x.Debtor
  | 2 => .str x.Currency
  | 3 => .int .i64 x.Amount
  | _ => .any
def vSBalance (l : List SBalance) : Cell := .vec l.length 4 (gL cSBalance dSBalance l)
def aSBalance (T : Nat) (l : List SBalance) : Ob := .arr T 4 l.length (gL cSBalance dSBalance l)
def bSBalance (x : SBalance) : List Cell := [.str x.Creditor, .str x.Debtor, .str x.Currency, .int .i64 x.Amount]
def cSPosition (x : SPosition) (j : Nat) : Cell := match j with
  | 0 => .str x.Currency
  | 1 => .str x.Party
  | 2 => .int .i64 x.Amount
  | _ => .any
def vSPosition (l : List SPosition) : Cell := .vec l.length 3 (gL cSPosition dSPosition l)
def aSPosition (T : Nat) (l : List SPosition) : Ob := .arr T 3 l.length (gL cSPosition dSPosition l)
def bSPosition (x : SPosition) : List Cell := [.str x.Currency, .str x.Party, .int .i64 x.Amount]
theorem oneSBalance : ∀ (a : SBalance) (j : Nat), j < 4 → (cSBalance a j).one = true := by
  intro a j h
  match j, h with
  | 0, _ => rfl
  | 1, _ => rfl
  | 2, _ => rfl
  | 3, _ => rfl
theorem oneSPosition : ∀ (a : SPosition) (j : Nat), j < 3 → (cSPosition a j).one = true := by
  intro a j h
  match j, h with
  | 0, _ => rfl
  | 1, _ => rfl
  | 2, _ => rfl
theorem mixed : Try.prog.follows .mixedOrders = true := by kernel_rfl
theorem eqt35 : eqTypeB Try.prog 35 [.str ByteArray.empty, .str ByteArray.empty, .str ByteArray.empty, .int .i64 0] = true := by kernel_rfl
theorem fd32_0 : fdB Try.prog 32 0 0 = true := by kernel_rfl
theorem fd32_1 : fdB Try.prog 32 1 1 = true := by kernel_rfl
theorem fd32_2 : fdB Try.prog 32 2 2 = true := by kernel_rfl
theorem fd35_0 : fdB Try.prog 35 0 0 = true := by kernel_rfl
theorem fd35_1 : fdB Try.prog 35 1 1 = true := by kernel_rfl
theorem fd35_2 : fdB Try.prog 35 2 2 = true := by kernel_rfl
theorem fd35_3 : fdB Try.prog 35 3 3 = true := by kernel_rfl
theorem fn10 : fnB Try.prog 10 = true := by kernel_rfl
theorem fn11 : fnB Try.prog 11 = true := by kernel_rfl
theorem fn12 : fnB Try.prog 12 = true := by kernel_rfl
theorem fn13 : fnB Try.prog 13 = true := by kernel_rfl
theorem fn20 : fnB Try.prog 20 = true := by kernel_rfl
theorem fn21 : fnB Try.prog 21 = true := by kernel_rfl
theorem fn22 : fnB Try.prog 22 = true := by kernel_rfl
theorem fn23 : fnB Try.prog 23 = true := by kernel_rfl
theorem fn24 : fnB Try.prog 24 = true := by kernel_rfl
theorem fn25 : fnB Try.prog 25 = true := by kernel_rfl
theorem fn26 : fnB Try.prog 26 = true := by kernel_rfl
theorem fn27 : fnB Try.prog 27 = true := by kernel_rfl
theorem fn38 : fnB Try.prog 38 = true := by kernel_rfl
theorem fn39 : fnB Try.prog 39 = true := by kernel_rfl
theorem fn43 : fnB Try.prog 43 = true := by kernel_rfl
theorem fn44 : fnB Try.prog 44 = true := by kernel_rfl
theorem fn48 : fnB Try.prog 48 = true := by kernel_rfl
theorem fn53 : fnB Try.prog 53 = true := by kernel_rfl
theorem fn59 : fnB Try.prog 59 = true := by kernel_rfl
theorem fn8 : fnB Try.prog 8 = true := by kernel_rfl
theorem fn9 : fnB Try.prog 9 = true := by kernel_rfl
theorem mp55 : mapB Try.prog 55 9 56 = true := by kernel_rfl
theorem mp56 : mapB Try.prog 56 9 3 = true := by kernel_rfl
theorem mt56 : mapTB Try.prog 56 = true := by kernel_rfl
theorem pl32 : placesP Try.prog 32 = some ([(0, 1), (1, 1), (2, 1)], .agg #[.string ByteArray.empty, .string ByteArray.empty, .int .i64 0]) := by kernel_rfl
theorem pl35 : placesP Try.prog 35 = some ([(0, 1), (1, 1), (2, 1), (3, 1)], .agg #[.string ByteArray.empty, .string ByteArray.empty, .string ByteArray.empty, .int .i64 0]) := by kernel_rfl
theorem sl22 : slB Try.prog 22 35 4 56 = true := by kernel_rfl
theorem sl29 : slB Try.prog 29 32 3 40 = true := by kernel_rfl
theorem sl57 : slB Try.prog 57 9 1 16 = true := by kernel_rfl
theorem sl70 : slB Try.prog 70 3 1 8 = true := by kernel_rfl
theorem ty3 : tyB Try.prog 3 false 1 = true := by kernel_rfl
theorem ty32 : tyB Try.prog 32 true 3 = true := by kernel_rfl
theorem ty35 : tyB Try.prog 35 true 4 = true := by kernel_rfl
theorem ty9 : tyB Try.prog 9 false 1 = true := by kernel_rfl
theorem un21 : Try.prog.underlying 21 = some (.int .i32) := by kernel_rfl
theorem un3 : Try.prog.underlying 3 = some (.int .i64) := by kernel_rfl
theorem un9 : Try.prog.underlying 9 = some (.string) := by kernel_rfl
theorem z3 : (Try.prog.info? 3).map (·.zero) = some (some (.int .i64 0)) := by kernel_rfl
theorem z32 : (Try.prog.info? 32).map (·.zero) = some (some (.agg #[.string ByteArray.empty, .string ByteArray.empty, .int .i64 0])) := by kernel_rfl
theorem z35 : (Try.prog.info? 35).map (·.zero) = some (some (.agg #[.string ByteArray.empty, .string ByteArray.empty, .string ByteArray.empty, .int .i64 0])) := by kernel_rfl
theorem z56 : (Try.prog.info? 56).map (·.zero) = some (some (.map none)) := by kernel_rfl
end Go.Proofs.Ytoncfkdgddfnlaa.W
