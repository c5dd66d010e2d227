/- Written by a program of ours (wip/eng/gen.py): closed facts on the types; the cells of the structures. -/
import Derived.Test.YtldekibkmombdaaModel
import Derived.Test.YtldekibkmombdaaProg
import Derived.KernelRfl
namespace Go.Proofs.Ytldekibkmombdaa.W
open Go Go.Proofs Go.Proofs.Ytldekibkmombdaa.E Go.Proofs.Ytldekibkmombdaa.M
set_option linter.unusedVariables false
def cSPeriod (x : SPeriod) (j : Nat) : Cell := match j with
  | 0 => .int .i64 x.At
  | 1 => .int .i64 x.Limit
  | _ => .any
def cSSpan (x : SSpan) (j : Nat) : Cell := match j with
  | 0 => .int .i64 x.From
  | 1 => .int .i64 x.To
  | _ => .any
def cSProfile (x : SProfile) (j : Nat) : Cell := match j with
  | 0 => .int .i64 x.ID
  | 1 => .int .i64 x.Level
  | 2 => .int .i64 x.Purpose
  | 3 => .int .i64 x.Kind
  | 4 => .int .i64 x.Conn
  | 5 => .str x.Txn
  | 6 => .int .i64 x.Span_From
  | 7 => .int .i64 x.Span_To
  | 8 => .int .i64 x.Start
  | 9 => .int .i64 x.Duration
  | 10 => .vec x.Periods.length 2 (gL cSPeriod dSPeriod x.Periods)
  | _ => .any
theorem oneSPeriod : ∀ (a : SPeriod) (j : Nat), j < 2 → (cSPeriod a j).one = true := by
  intro a j h
  match j, h with
  | 0, _ => rfl
  | 1, _ => rfl
theorem oneSProfile : ∀ (a : SProfile) (j : Nat), j < 11 → (cSProfile a j).one = true := by
  intro a j h
  match j, h with
  | 0, _ => rfl
  | 1, _ => rfl
  | 2, _ => rfl
  | 3, _ => rfl
  | 4, _ => rfl
  | 5, _ => rfl
  | 6, _ => rfl
  | 7, _ => rfl
  | 8, _ => rfl
  | 9, _ => rfl
  | 10, _ => rfl
theorem mixed : Try.prog.follows .mixedOrders = true := by kernel_rfl
theorem eqt23 : eqTypeB Try.prog 23 [.int .i64 0, .int .i64 0] = true := by kernel_rfl
theorem eqt47 : eqTypeB Try.prog 47 [.int .i64 0, .int .i64 0] = true := by kernel_rfl
theorem fd23_0 : fdB Try.prog 23 0 0 = true := by kernel_rfl
theorem fd23_1 : fdB Try.prog 23 1 1 = true := by kernel_rfl
theorem fd26_0 : fdB Try.prog 26 0 0 = true := by kernel_rfl
theorem fd26_1 : fdB Try.prog 26 1 1 = true := by kernel_rfl
theorem fd26_2 : fdB Try.prog 26 2 2 = true := by kernel_rfl
theorem fd26_3 : fdB Try.prog 26 3 3 = true := by kernel_rfl
theorem fd26_4 : fdB Try.prog 26 4 4 = true := by kernel_rfl
theorem fd26_5 : fdB Try.prog 26 5 5 = true := by kernel_rfl
theorem fd26_6 : fdB Try.prog 26 6 6 = true := by kernel_rfl
theorem fd26_7 : fdB Try.prog 26 7 8 = true := by kernel_rfl
theorem fd26_8 : fdB Try.prog 26 8 9 = true := by kernel_rfl
theorem fd26_9 : fdB Try.prog 26 9 10 = true := by kernel_rfl
theorem fd47_0 : fdB Try.prog 47 0 0 = true := by kernel_rfl
theorem fd47_1 : fdB Try.prog 47 1 1 = true := by kernel_rfl
theorem fn11 : fnB Try.prog 11 = true := by kernel_rfl
theorem fn12 : fnB Try.prog 12 = true := by kernel_rfl
theorem fn13 : fnB Try.prog 13 = true := by kernel_rfl
theorem fn14 : fnB Try.prog 14 = true := by kernel_rfl
theorem fn15 : fnB Try.prog 15 = true := by kernel_rfl
theorem fn16 : fnB Try.prog 16 = true := by kernel_rfl
theorem fn17 : fnB Try.prog 17 = true := by kernel_rfl
theorem fn18 : fnB Try.prog 18 = true := by kernel_rfl
theorem fn19 : fnB Try.prog 19 = true := by kernel_rfl
theorem fn20 : fnB Try.prog 20 = true := by kernel_rfl
theorem fn21 : fnB Try.prog 21 = true := by kernel_rfl
theorem fn22 : fnB Try.prog 22 = true := by kernel_rfl
theorem fn23 : fnB Try.prog 23 = true := by kernel_rfl
theorem fn24 : fnB Try.prog 24 = true := by kernel_rfl
theorem fn25 : fnB Try.prog 25 = true := by kernel_rfl
theorem fn26 : fnB Try.prog 26 = true := by kernel_rfl
theorem fn27 : fnB Try.prog 27 = true := by kernel_rfl
theorem fn28 : fnB Try.prog 28 = true := by kernel_rfl
theorem fn29 : fnB Try.prog 29 = true := by kernel_rfl
theorem fn30 : fnB Try.prog 30 = true := by kernel_rfl
theorem fn31 : fnB Try.prog 31 = true := by kernel_rfl
theorem fn32 : fnB Try.prog 32 = true := by kernel_rfl
theorem fn33 : fnB Try.prog 33 = true := by kernel_rfl
theorem fn34 : fnB Try.prog 34 = true := by kernel_rfl
theorem fn35 : fnB Try.prog 35 = true := by kernel_rfl
theorem fn36 : fnB Try.prog 36 = true := by kernel_rfl
theorem fn37 : fnB Try.prog 37 = true := by kernel_rfl
theorem fn38 : fnB Try.prog 38 = true := by kernel_rfl
theorem fn39 : fnB Try.prog 39 = true := by kernel_rfl
theorem fn40 : fnB Try.prog 40 = true := by kernel_rfl
theorem fn41 : fnB Try.prog 41 = true := by kernel_rfl
theorem fn42 : fnB Try.prog 42 = true := by kernel_rfl
theorem fn43 : fnB Try.prog 43 = true := by kernel_rfl
theorem fn44 : fnB Try.prog 44 = true := by kernel_rfl
theorem fn45 : fnB Try.prog 45 = true := by kernel_rfl
theorem fn46 : fnB Try.prog 46 = true := by kernel_rfl
theorem fn47 : fnB Try.prog 47 = true := by kernel_rfl
theorem fn48 : fnB Try.prog 48 = true := by kernel_rfl
theorem fn49 : fnB Try.prog 49 = true := by kernel_rfl
theorem fn50 : fnB Try.prog 50 = true := by kernel_rfl
theorem fn51 : fnB Try.prog 51 = true := by kernel_rfl
theorem fn52 : fnB Try.prog 52 = true := by kernel_rfl
theorem pl23 : placesP Try.prog 23 = some ([(0, 1), (1, 1)], .agg #[.int .i64 0, .int .i64 0]) := by kernel_rfl
theorem pl26 : placesP Try.prog 26 = some ([(0, 1), (1, 1), (2, 1), (3, 1), (4, 1), (5, 1), (6, 2), (8, 1), (9, 1), (10, 1)], .agg #[.int .i64 0, .int .i64 0, .int .i64 0, .int .i64 0, .int .i64 0, .string ByteArray.empty, .int .i64 0, .int .i64 0, .int .i64 0, .int .i64 0, .slice none 0 0]) := by kernel_rfl
theorem pl47 : placesP Try.prog 47 = some ([(0, 1), (1, 1)], .agg #[.int .i64 0, .int .i64 0]) := by kernel_rfl
theorem sl24 : slB Try.prog 24 47 2 16 = true := by kernel_rfl
theorem sl31 : slB Try.prog 31 26 11 112 = true := by kernel_rfl
theorem sl54 : slB Try.prog 54 3 1 8 = true := by kernel_rfl
theorem ty23 : tyB Try.prog 23 true 2 = true := by kernel_rfl
theorem ty24 : tyB Try.prog 24 false 1 = true := by kernel_rfl
theorem ty26 : tyB Try.prog 26 true 11 = true := by kernel_rfl
theorem ty3 : tyB Try.prog 3 false 1 = true := by kernel_rfl
theorem ty47 : tyB Try.prog 47 true 2 = true := by kernel_rfl
theorem ty9 : tyB Try.prog 9 false 1 = true := by kernel_rfl
theorem un21 : Try.prog.underlying 21 = some (.int .i32) := by kernel_rfl
theorem un3 : Try.prog.underlying 3 = some (.int .i64) := by kernel_rfl
theorem un4 : Try.prog.underlying 4 = some (.bool) := by kernel_rfl
theorem un44 : Try.prog.underlying 44 = some (.int .u32) := by kernel_rfl
theorem un52 : Try.prog.underlying 52 = some (.int .u64) := by kernel_rfl
theorem un9 : Try.prog.underlying 9 = some (.string) := by kernel_rfl
theorem us24 : Try.prog.underlying 24 = some (.slice 47) := by kernel_rfl
theorem z26 : (Try.prog.info? 26).map (·.zero) = some (some (.agg #[.int .i64 0, .int .i64 0, .int .i64 0, .int .i64 0, .int .i64 0, .string ByteArray.empty, .int .i64 0, .int .i64 0, .int .i64 0, .int .i64 0, .slice none 0 0])) := by kernel_rfl
theorem z3 : (Try.prog.info? 3).map (·.zero) = some (some (.int .i64 0)) := by kernel_rfl
theorem z47 : (Try.prog.info? 47).map (·.zero) = some (some (.agg #[.int .i64 0, .int .i64 0])) := by kernel_rfl
end Go.Proofs.Ytldekibkmombdaa.W
