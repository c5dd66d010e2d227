/- Written by a program of ours (wip/eng/gen.py): closed facts on the types; the cells of the structures. -/
import Derived.Test.YtllifhmllicnhaaModel
import Derived.Test.YtllifhmllicnhaaProg
import Derived.KernelRfl
namespace Go.Proofs.Ytllifhmllicnhaa.W
open Go Go.Proofs Go.Proofs.Ytllifhmllicnhaa.E Go.Proofs.Ytllifhmllicnhaa.M
set_option linter.unusedVariables false
def cSDeal (x : SDeal) (j : Nat) : Cell := match j with
  | 0 => .bool x.Back
  | 1 => .int .u16 x.Net
  | 2 => .int .u16 x.Claim
  | 3 => .int .u16 x.Granted
  | 4 => .bool x.Credited
  | _ => .any
def cSItem (x : SItem) (j : Nat) : Cell := match j with
  | 0 => .int .i64 x.Kind
  | 1 => .int .i64 x.Price
  | 2 => .int .i64 x.Tax
  | 3 => .int .i64 x.Quantity
  | 4 => .int .i64 x.Net
  | 5 => .int .i64 x.Vat
  | 6 => .int .i64 x.Gross
  | _ => .any
def cSCDR (x : SCDR) (j : Nat) : Cell := match j with
  | 0 => .str x.ID
  | 1 => .str x.Operator
  | 2 => .str x.Provider
  | 3 => .str x.Session
  | 4 => .int .i64 x.Version
  | 5 => .int .i64 x.Start
  | 6 => .int .i64 x.End
  | 7 => .int .i64 x.Energy
  | 8 => .str x.Tariff
  | 9 => .str x.Currency
  | 10 => .vec x.Items.length 7 (gL cSItem dSItem x.Items)
  | 11 => .int .i64 x.Total
  | 12 => .bool x.Credit
  | 13 => .str x.Ref
  | _ => .any
def cSDispute (x : SDispute) (j : Nat) : Cell := match j with
  | 0 => .str x.CDR
  | 1 => .str x.By
  | 2 => .int .i64 x.State
  | 3 => .int .i64 x.Opened
  | 4 => .int .i64 x.Claim
  | 5 => .int .i64 x.Granted
  | _ => .any

theorem mixed : Try.prog.follows .mixedOrders = true := by kernel_rfl
theorem fd25_0 : fdB Try.prog 25 0 0 = true := by kernel_rfl
theorem fd25_1 : fdB Try.prog 25 1 1 = true := by kernel_rfl
theorem fd25_10 : fdB Try.prog 25 10 10 = true := by kernel_rfl
theorem fd25_11 : fdB Try.prog 25 11 11 = true := by kernel_rfl
theorem fd25_12 : fdB Try.prog 25 12 12 = true := by kernel_rfl
theorem fd25_13 : fdB Try.prog 25 13 13 = true := by kernel_rfl
theorem fd25_2 : fdB Try.prog 25 2 2 = true := by kernel_rfl
theorem fd25_3 : fdB Try.prog 25 3 3 = true := by kernel_rfl
theorem fd25_4 : fdB Try.prog 25 4 4 = true := by kernel_rfl
theorem fd25_5 : fdB Try.prog 25 5 5 = true := by kernel_rfl
theorem fd25_6 : fdB Try.prog 25 6 6 = true := by kernel_rfl
theorem fd25_7 : fdB Try.prog 25 7 7 = true := by kernel_rfl
theorem fd25_8 : fdB Try.prog 25 8 8 = true := by kernel_rfl
theorem fd25_9 : fdB Try.prog 25 9 9 = true := by kernel_rfl
theorem fd28_0 : fdB Try.prog 28 0 0 = true := by kernel_rfl
theorem fd28_1 : fdB Try.prog 28 1 1 = true := by kernel_rfl
theorem fd30_0 : fdB Try.prog 30 0 0 = true := by kernel_rfl
theorem fd30_1 : fdB Try.prog 30 1 1 = true := by kernel_rfl
theorem fd30_2 : fdB Try.prog 30 2 2 = true := by kernel_rfl
theorem fd30_3 : fdB Try.prog 30 3 3 = true := by kernel_rfl
theorem fd30_4 : fdB Try.prog 30 4 4 = true := by kernel_rfl
theorem fd30_5 : fdB Try.prog 30 5 5 = true := by kernel_rfl
theorem fd40_0 : fdB Try.prog 40 0 0 = true := by kernel_rfl
theorem fd40_1 : fdB Try.prog 40 1 1 = true := by kernel_rfl
theorem fd40_2 : fdB Try.prog 40 2 2 = true := by kernel_rfl
theorem fd40_3 : fdB Try.prog 40 3 3 = true := by kernel_rfl
theorem fd40_4 : fdB Try.prog 40 4 4 = true := by kernel_rfl
theorem fd40_5 : fdB Try.prog 40 5 5 = true := by kernel_rfl
theorem fd40_6 : fdB Try.prog 40 6 6 = true := by kernel_rfl
theorem fn10 : fnB Try.prog 10 = true := by kernel_rfl
theorem fn11 : fnB Try.prog 11 = true := by kernel_rfl
theorem fn12 : fnB Try.prog 12 = true := by kernel_rfl
theorem fn13 : fnB Try.prog 13 = true := by kernel_rfl
theorem fn14 : fnB Try.prog 14 = true := by kernel_rfl
theorem fn15 : fnB Try.prog 15 = true := by kernel_rfl
theorem fn16 : fnB Try.prog 16 = true := by kernel_rfl
theorem fn4 : fnB Try.prog 4 = true := by kernel_rfl
theorem fn5 : fnB Try.prog 5 = true := by kernel_rfl
theorem fn6 : fnB Try.prog 6 = true := by kernel_rfl
theorem fn7 : fnB Try.prog 7 = true := by kernel_rfl
theorem fn8 : fnB Try.prog 8 = true := by kernel_rfl
theorem fn9 : fnB Try.prog 9 = true := by kernel_rfl
theorem pl25 : placesP Try.prog 25 = some ([(0, 1), (1, 1), (2, 1), (3, 1), (4, 1), (5, 1), (6, 1), (7, 1), (8, 1), (9, 1), (10, 1), (11, 1), (12, 1), (13, 1)], .agg #[.string ByteArray.empty, .string ByteArray.empty, .string ByteArray.empty, .string ByteArray.empty, .int .i64 0, .int .i64 0, .int .i64 0, .int .i64 0, .string ByteArray.empty, .string ByteArray.empty, .slice none 0 0, .int .i64 0, .bool false, .string ByteArray.empty]) := by kernel_rfl
theorem pl28 : placesP Try.prog 28 = some ([(0, 1), (1, 1), (2, 1), (3, 1), (4, 1)], .agg #[.bool false, .int .u16 0, .int .u16 0, .int .u16 0, .bool false]) := by kernel_rfl
theorem pl30 : placesP Try.prog 30 = some ([(0, 1), (1, 1), (2, 1), (3, 1), (4, 1), (5, 1)], .agg #[.string ByteArray.empty, .string ByteArray.empty, .int .i64 0, .int .i64 0, .int .i64 0, .int .i64 0]) := by kernel_rfl
theorem pl40 : placesP Try.prog 40 = some ([(0, 1), (1, 1), (2, 1), (3, 1), (4, 1), (5, 1), (6, 1)], .agg #[.int .i64 0, .int .i64 0, .int .i64 0, .int .i64 0, .int .i64 0, .int .i64 0, .int .i64 0]) := by kernel_rfl
theorem sl23 : slB Try.prog 23 40 7 56 = true := by kernel_rfl
theorem sl36 : slB Try.prog 36 30 6 64 = true := by kernel_rfl
theorem sl38 : slB Try.prog 38 5 1 1 = true := by kernel_rfl
theorem sl46 : slB Try.prog 46 9 1 16 = true := by kernel_rfl
theorem sl47 : slB Try.prog 47 3 1 8 = true := by kernel_rfl
theorem ty22 : tyB Try.prog 22 false 1 = true := by kernel_rfl
theorem ty23 : tyB Try.prog 23 false 1 = true := by kernel_rfl
theorem ty25 : tyB Try.prog 25 true 14 = true := by kernel_rfl
theorem ty3 : tyB Try.prog 3 false 1 = true := by kernel_rfl
theorem ty30 : tyB Try.prog 30 true 6 = true := by kernel_rfl
theorem ty4 : tyB Try.prog 4 false 1 = true := by kernel_rfl
theorem ty40 : tyB Try.prog 40 true 7 = true := by kernel_rfl
theorem ty9 : tyB Try.prog 9 false 1 = true := by kernel_rfl
theorem un21 : Try.prog.underlying 21 = some (.int .i32) := by kernel_rfl
theorem un22 : Try.prog.underlying 22 = some (.int .u16) := by kernel_rfl
theorem un3 : Try.prog.underlying 3 = some (.int .i64) := by kernel_rfl
theorem un4 : Try.prog.underlying 4 = some (.bool) := by kernel_rfl
theorem un5 : Try.prog.underlying 5 = some (.int .u8) := by kernel_rfl
theorem un9 : Try.prog.underlying 9 = some (.string) := by kernel_rfl
theorem us38 : Try.prog.underlying 38 = some (.slice 5) := by kernel_rfl
theorem z25 : (Try.prog.info? 25).map (·.zero) = some (some (.agg #[.string ByteArray.empty, .string ByteArray.empty, .string ByteArray.empty, .string ByteArray.empty, .int .i64 0, .int .i64 0, .int .i64 0, .int .i64 0, .string ByteArray.empty, .string ByteArray.empty, .slice none 0 0, .int .i64 0, .bool false, .string ByteArray.empty])) := by kernel_rfl
theorem z3 : (Try.prog.info? 3).map (·.zero) = some (some (.int .i64 0)) := by kernel_rfl
theorem z30 : (Try.prog.info? 30).map (·.zero) = some (some (.agg #[.string ByteArray.empty, .string ByteArray.empty, .int .i64 0, .int .i64 0, .int .i64 0, .int .i64 0])) := by kernel_rfl
theorem z40 : (Try.prog.info? 40).map (·.zero) = some (some (.agg #[.int .i64 0, .int .i64 0, .int .i64 0, .int .i64 0, .int .i64 0, .int .i64 0, .int .i64 0])) := by kernel_rfl
theorem z5 : (Try.prog.info? 5).map (·.zero) = some (some (.int .u8 0)) := by kernel_rfl
theorem z9 : (Try.prog.info? 9).map (·.zero) = some (some (.string ByteArray.empty)) := by kernel_rfl
end Go.Proofs.Ytllifhmllicnhaa.W
