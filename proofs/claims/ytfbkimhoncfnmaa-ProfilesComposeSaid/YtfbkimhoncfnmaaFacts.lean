/- Written by a program of ours (wip/eng/gen.py): closed facts on the types; the cells of the structures. -/
import Derived.Test.YtfbkimhoncfnmaaModel
import Derived.Test.YtfbkimhoncfnmaaProg
import Derived.KernelRfl
namespace Go.Proofs.Ytfbkimhoncfnmaa.W
open Go Go.Proofs Go.Proofs.Ytfbkimhoncfnmaa.E Go.Proofs.Ytfbkimhoncfnmaa.M
set_option linter.unusedVariables false
def cSPeriod (x : SPeriod) (j : Nat) : Cell := match j with
  | 0 => .int .i64 x.At
  | 1 => .int .i64 x.Limit
  | _ => .any
def cSSpan (x : SSpan) (j : Nat) : Cell := match j with
  | 0 => .int .i64 x.From
  | 1 => .int .i64 x.To
  | _ => .any
def cSProfile (x : SProfile) (j : Nat) : Cell := match j with
  | 0 => .int .i64 x.ID
  | 1 => .int .i64 x.Level
  | 2 => .int .i64 x.Purpose
  | 3 => .int .i64 x.Kind
  | 4 => .int .i64 x.Conn
  | 5 => .str x.Txn
  | 6 => .int .i64 x.Span_From
  | 7 => .int .i64 x.Span_To
  | 8 => .int .i64 x.Start
  | 9 => .int .i64 x.Duration
  | 10 => .vec x.Periods.length 2 (gL cSPeriod dSPeriod x.Periods)
  | _ => .any
def cSComposed (x : SComposed) (j : Nat) : Cell := match j with
  | 0 => .vec x.L.length 11 (gL cSProfile dSProfile x.L)
  | 1 => .int .i64 x.Conn
  | 2 => .str x.Txn
  | 3 => .int .i64 x.Start
  | 4 => .int .i64 x.T
  | 5 => .int .i64 x.Length
  | _ => .any
def cSStep (x : SStep) (j : Nat) : Cell := match j with
  | 0 => .int .i64 x.At
  | 1 => .int .i64 x.Value
  | _ => .any
def cSLead (x : SLead) (j : Nat) : Cell := match j with
  | 0 => .int .i64 x.id
  | 1 => .int .i64 x.level
  | 2 => .int .i64 x.limit
  | _ => .any
theorem oneSPeriod : ∀ (a : SPeriod) (j : Nat), j < 2 → (cSPeriod a j).one = true := by
  intro a j h
  match j, h with
  | 0, _ => rfl
  | 1, _ => rfl
theorem oneSProfile : ∀ (a : SProfile) (j : Nat), j < 11 → (cSProfile a j).one = true := by
  intro a j h
  match j, h with
  | 0, _ => rfl
  | 1, _ => rfl
  | 2, _ => rfl
  | 3, _ => rfl
  | 4, _ => rfl
  | 5, _ => rfl
  | 6, _ => rfl
  | 7, _ => rfl
  | 8, _ => rfl
  | 9, _ => rfl
  | 10, _ => rfl
theorem oneSStep : ∀ (a : SStep) (j : Nat), j < 2 → (cSStep a j).one = true := by
  intro a j h
  match j, h with
  | 0, _ => rfl
  | 1, _ => rfl
theorem mixed : Try.prog.follows .mixedOrders = true := by kernel_rfl
theorem ar71 : arrB Try.prog 71 3 3 1 = true := by kernel_rfl
theorem fd24_0 : fdB Try.prog 24 0 0 = true := by kernel_rfl
theorem fd24_1 : fdB Try.prog 24 1 1 = true := by kernel_rfl
theorem fd24_2 : fdB Try.prog 24 2 2 = true := by kernel_rfl
theorem fd24_3 : fdB Try.prog 24 3 3 = true := by kernel_rfl
theorem fd24_4 : fdB Try.prog 24 4 4 = true := by kernel_rfl
theorem fd24_5 : fdB Try.prog 24 5 5 = true := by kernel_rfl
theorem fd26_0 : fdB Try.prog 26 0 0 = true := by kernel_rfl
theorem fd26_1 : fdB Try.prog 26 1 1 = true := by kernel_rfl
theorem fd29_0 : fdB Try.prog 29 0 0 = true := by kernel_rfl
theorem fd29_1 : fdB Try.prog 29 1 1 = true := by kernel_rfl
theorem fd29_2 : fdB Try.prog 29 2 2 = true := by kernel_rfl
theorem fd29_3 : fdB Try.prog 29 3 3 = true := by kernel_rfl
theorem fd29_4 : fdB Try.prog 29 4 4 = true := by kernel_rfl
theorem fd29_5 : fdB Try.prog 29 5 5 = true := by kernel_rfl
theorem fd29_6 : fdB Try.prog 29 6 6 = true := by kernel_rfl
theorem fd29_7 : fdB Try.prog 29 7 8 = true := by kernel_rfl
theorem fd29_8 : fdB Try.prog 29 8 9 = true := by kernel_rfl
theorem fd29_9 : fdB Try.prog 29 9 10 = true := by kernel_rfl
theorem fd51_0 : fdB Try.prog 51 0 0 = true := by kernel_rfl
theorem fd51_1 : fdB Try.prog 51 1 1 = true := by kernel_rfl
theorem fd56_0 : fdB Try.prog 56 0 0 = true := by kernel_rfl
theorem fd56_1 : fdB Try.prog 56 1 1 = true := by kernel_rfl
theorem fd56_2 : fdB Try.prog 56 2 2 = true := by kernel_rfl
theorem fd62_0 : fdB Try.prog 62 0 0 = true := by kernel_rfl
theorem fd62_1 : fdB Try.prog 62 1 1 = true := by kernel_rfl
theorem fn10 : fnB Try.prog 10 = true := by kernel_rfl
theorem fn11 : fnB Try.prog 11 = true := by kernel_rfl
theorem fn12 : fnB Try.prog 12 = true := by kernel_rfl
theorem fn13 : fnB Try.prog 13 = true := by kernel_rfl
theorem fn14 : fnB Try.prog 14 = true := by kernel_rfl
theorem fn15 : fnB Try.prog 15 = true := by kernel_rfl
theorem fn16 : fnB Try.prog 16 = true := by kernel_rfl
theorem fn17 : fnB Try.prog 17 = true := by kernel_rfl
theorem fn18 : fnB Try.prog 18 = true := by kernel_rfl
theorem fn19 : fnB Try.prog 19 = true := by kernel_rfl
theorem fn20 : fnB Try.prog 20 = true := by kernel_rfl
theorem fn21 : fnB Try.prog 21 = true := by kernel_rfl
theorem fn22 : fnB Try.prog 22 = true := by kernel_rfl
theorem fn23 : fnB Try.prog 23 = true := by kernel_rfl
theorem fn24 : fnB Try.prog 24 = true := by kernel_rfl
theorem fn25 : fnB Try.prog 25 = true := by kernel_rfl
theorem fn26 : fnB Try.prog 26 = true := by kernel_rfl
theorem fn27 : fnB Try.prog 27 = true := by kernel_rfl
theorem fn28 : fnB Try.prog 28 = true := by kernel_rfl
theorem fn29 : fnB Try.prog 29 = true := by kernel_rfl
theorem fn30 : fnB Try.prog 30 = true := by kernel_rfl
theorem fn31 : fnB Try.prog 31 = true := by kernel_rfl
theorem fn32 : fnB Try.prog 32 = true := by kernel_rfl
theorem fn33 : fnB Try.prog 33 = true := by kernel_rfl
theorem fn34 : fnB Try.prog 34 = true := by kernel_rfl
theorem fn35 : fnB Try.prog 35 = true := by kernel_rfl
theorem fn36 : fnB Try.prog 36 = true := by kernel_rfl
theorem fn37 : fnB Try.prog 37 = true := by kernel_rfl
theorem fn38 : fnB Try.prog 38 = true := by kernel_rfl
theorem fn4 : fnB Try.prog 4 = true := by kernel_rfl
theorem fn5 : fnB Try.prog 5 = true := by kernel_rfl
theorem fn6 : fnB Try.prog 6 = true := by kernel_rfl
theorem fn7 : fnB Try.prog 7 = true := by kernel_rfl
theorem fn8 : fnB Try.prog 8 = true := by kernel_rfl
theorem fn9 : fnB Try.prog 9 = true := by kernel_rfl
theorem pl26 : placesP Try.prog 26 = some ([(0, 1), (1, 1)], .agg #[.int .i64 0, .int .i64 0]) := by kernel_rfl
theorem pl51 : placesP Try.prog 51 = some ([(0, 1), (1, 1)], .agg #[.int .i64 0, .int .i64 0]) := by kernel_rfl
theorem pl56 : placesP Try.prog 56 = some ([(0, 1), (1, 1), (2, 1)], .agg #[.int .i64 0, .int .i64 0, .int .i64 0]) := by kernel_rfl
theorem sl22 : slB Try.prog 22 29 11 112 = true := by kernel_rfl
theorem sl27 : slB Try.prog 27 62 2 16 = true := by kernel_rfl
theorem sl34 : slB Try.prog 34 51 2 16 = true := by kernel_rfl
theorem sl64 : slB Try.prog 64 3 1 8 = true := by kernel_rfl
theorem ty22 : tyB Try.prog 22 false 1 = true := by kernel_rfl
theorem ty26 : tyB Try.prog 26 true 2 = true := by kernel_rfl
theorem ty27 : tyB Try.prog 27 false 1 = true := by kernel_rfl
theorem ty29 : tyB Try.prog 29 true 11 = true := by kernel_rfl
theorem ty3 : tyB Try.prog 3 false 1 = true := by kernel_rfl
theorem ty51 : tyB Try.prog 51 true 2 = true := by kernel_rfl
theorem ty56 : tyB Try.prog 56 true 3 = true := by kernel_rfl
theorem ty62 : tyB Try.prog 62 true 2 = true := by kernel_rfl
theorem ty71 : tyB Try.prog 71 true 3 = true := by kernel_rfl
theorem ty9 : tyB Try.prog 9 false 1 = true := by kernel_rfl
theorem un21 : Try.prog.underlying 21 = some (.int .i32) := by kernel_rfl
theorem un3 : Try.prog.underlying 3 = some (.int .i64) := by kernel_rfl
theorem un4 : Try.prog.underlying 4 = some (.bool) := by kernel_rfl
theorem un5 : Try.prog.underlying 5 = some (.int .u8) := by kernel_rfl
theorem un73 : Try.prog.underlying 73 = some (.int .u64) := by kernel_rfl
theorem un9 : Try.prog.underlying 9 = some (.string) := by kernel_rfl
theorem us27 : Try.prog.underlying 27 = some (.slice 62) := by kernel_rfl
theorem z26 : (Try.prog.info? 26).map (·.zero) = some (some (.agg #[.int .i64 0, .int .i64 0])) := by kernel_rfl
theorem z29 : (Try.prog.info? 29).map (·.zero) = some (some (.agg #[.int .i64 0, .int .i64 0, .int .i64 0, .int .i64 0, .int .i64 0, .string ByteArray.empty, .int .i64 0, .int .i64 0, .int .i64 0, .int .i64 0, .slice none 0 0])) := by kernel_rfl
theorem z3 : (Try.prog.info? 3).map (·.zero) = some (some (.int .i64 0)) := by kernel_rfl
theorem z51 : (Try.prog.info? 51).map (·.zero) = some (some (.agg #[.int .i64 0, .int .i64 0])) := by kernel_rfl
theorem z56 : (Try.prog.info? 56).map (·.zero) = some (some (.agg #[.int .i64 0, .int .i64 0, .int .i64 0])) := by kernel_rfl
theorem z62 : (Try.prog.info? 62).map (·.zero) = some (some (.agg #[.int .i64 0, .int .i64 0])) := by kernel_rfl
theorem z71 : (Try.prog.info? 71).map (·.zero) = some (some (.agg #[.int .i64 0, .int .i64 0, .int .i64 0])) := by kernel_rfl
end Go.Proofs.Ytfbkimhoncfnmaa.W
