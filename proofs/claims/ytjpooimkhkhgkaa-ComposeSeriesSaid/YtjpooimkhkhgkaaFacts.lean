/- Written by a program of ours (wip/eng/gen.py): closed facts on the types; the cells of the structures. -/
import Derived.Test.YtjpooimkhkhgkaaModel
import Derived.Test.YtjpooimkhkhgkaaProg
import Derived.KernelRfl
namespace Go.Proofs.Ytjpooimkhkhgkaa.W
open Go Go.Proofs Go.Proofs.Ytjpooimkhkhgkaa.E Go.Proofs.Ytjpooimkhkhgkaa.M
set_option linter.unusedVariables false
def cSPeriod (x : SPeriod) (j : Nat) : Cell := match j with
  | 0 => .int .i64 x.At
  | 1 => .int .i64 x.Limit
  | _ => .any
def cSSpan (x : SSpan) (j : Nat) : Cell := match j with
  | 0 => .int .i64 x.From
  | 1 => .int .i64 x.To
  | _ => .any
def cSProfile (x : SProfile) (j : Nat) : Cell := match j with
  | 0 => .int .i64 x.ID
  | 1 => .int .i64 x.Level
  | 2 => .int .i64 x.Purpose
  | 3 => .int .i64 x.Kind
  | 4 => .int .i64 x.Conn
  | 5 => .str x.Txn
  | 6 => .int .i64 x.Span_From
  | 7 => .int .i64 x.Span_To
  | 8 => .int .i64 x.Start
  | 9 => .int .i64 x.Duration
  | 10 => .vec x.Periods.length 2 (gL cSPeriod dSPeriod x.Periods)
  | _ => .any
def cSQuery (x : SQuery) (j : Nat) : Cell := match j with
  | 0 => .vec x.L.length 11 (gL cSProfile dSProfile x.L)
  | 1 => .int .i64 x.Conn
  | 2 => .str x.Txn
  | 3 => .int .i64 x.Start
  | 4 => .int .i64 x.T
  | 5 => .int .i64 x.Length
  | _ => .any
def cSLead (x : SLead) (j : Nat) : Cell := match j with
  | 0 => .int .i64 x.id
  | 1 => .int .i64 x.level
  | 2 => .int .i64 x.limit
  | _ => .any
def cSStep (x : SStep) (j : Nat) : Cell := match j with
  | 0 => .int .i64 x.At
  | 1 => .int .i64 x.Value
  | _ => .any
theorem oneSProfile : ∀ (a : SProfile) (j : Nat), j < 11 → (cSProfile a j).one = true := by
  intro a j h
  match j, h with
  | 0, _ => rfl
  | 1, _ => rfl
  | 2, _ => rfl
  | 3, _ => rfl
  | 4, _ => rfl
  | 5, _ => rfl
  | 6, _ => rfl
  | 7, _ => rfl
  | 8, _ => rfl
  | 9, _ => rfl
  | 10, _ => rfl
theorem oneSStep : ∀ (a : SStep) (j : Nat), j < 2 → (cSStep a j).one = true := by
  intro a j h
  match j, h with
  | 0, _ => rfl
  | 1, _ => rfl
theorem mixed : Try.prog.follows .mixedOrders = true := by kernel_rfl
theorem ar74 : arrB Try.prog 74 3 3 1 = true := by kernel_rfl
theorem eqt46 : eqTypeB Try.prog 46 [.int .i64 0, .int .i64 0] = true := by kernel_rfl
theorem fd24_0 : fdB Try.prog 24 0 0 = true := by kernel_rfl
theorem fd24_1 : fdB Try.prog 24 1 1 = true := by kernel_rfl
theorem fd24_2 : fdB Try.prog 24 2 2 = true := by kernel_rfl
theorem fd24_3 : fdB Try.prog 24 3 3 = true := by kernel_rfl
theorem fd24_4 : fdB Try.prog 24 4 4 = true := by kernel_rfl
theorem fd24_5 : fdB Try.prog 24 5 5 = true := by kernel_rfl
theorem fd28_0 : fdB Try.prog 28 0 0 = true := by kernel_rfl
theorem fd28_1 : fdB Try.prog 28 1 1 = true := by kernel_rfl
theorem fd31_0 : fdB Try.prog 31 0 0 = true := by kernel_rfl
theorem fd31_1 : fdB Try.prog 31 1 1 = true := by kernel_rfl
theorem fd31_2 : fdB Try.prog 31 2 2 = true := by kernel_rfl
theorem fd31_3 : fdB Try.prog 31 3 3 = true := by kernel_rfl
theorem fd31_4 : fdB Try.prog 31 4 4 = true := by kernel_rfl
theorem fd31_5 : fdB Try.prog 31 5 5 = true := by kernel_rfl
theorem fd31_6 : fdB Try.prog 31 6 6 = true := by kernel_rfl
theorem fd31_7 : fdB Try.prog 31 7 8 = true := by kernel_rfl
theorem fd31_8 : fdB Try.prog 31 8 9 = true := by kernel_rfl
theorem fd31_9 : fdB Try.prog 31 9 10 = true := by kernel_rfl
theorem fd38_0 : fdB Try.prog 38 0 0 = true := by kernel_rfl
theorem fd38_1 : fdB Try.prog 38 1 1 = true := by kernel_rfl
theorem fd46_1 : fdB Try.prog 46 1 1 = true := by kernel_rfl
theorem fd55_0 : fdB Try.prog 55 0 0 = true := by kernel_rfl
theorem fd55_1 : fdB Try.prog 55 1 1 = true := by kernel_rfl
theorem fd55_2 : fdB Try.prog 55 2 2 = true := by kernel_rfl
theorem fn10 : fnB Try.prog 10 = true := by kernel_rfl
theorem fn11 : fnB Try.prog 11 = true := by kernel_rfl
theorem fn12 : fnB Try.prog 12 = true := by kernel_rfl
theorem fn13 : fnB Try.prog 13 = true := by kernel_rfl
theorem fn14 : fnB Try.prog 14 = true := by kernel_rfl
theorem fn15 : fnB Try.prog 15 = true := by kernel_rfl
theorem fn16 : fnB Try.prog 16 = true := by kernel_rfl
theorem fn17 : fnB Try.prog 17 = true := by kernel_rfl
theorem fn18 : fnB Try.prog 18 = true := by kernel_rfl
theorem fn19 : fnB Try.prog 19 = true := by kernel_rfl
theorem fn20 : fnB Try.prog 20 = true := by kernel_rfl
theorem fn21 : fnB Try.prog 21 = true := by kernel_rfl
theorem fn22 : fnB Try.prog 22 = true := by kernel_rfl
theorem fn23 : fnB Try.prog 23 = true := by kernel_rfl
theorem fn24 : fnB Try.prog 24 = true := by kernel_rfl
theorem fn25 : fnB Try.prog 25 = true := by kernel_rfl
theorem fn26 : fnB Try.prog 26 = true := by kernel_rfl
theorem fn27 : fnB Try.prog 27 = true := by kernel_rfl
theorem fn28 : fnB Try.prog 28 = true := by kernel_rfl
theorem fn29 : fnB Try.prog 29 = true := by kernel_rfl
theorem fn30 : fnB Try.prog 30 = true := by kernel_rfl
theorem fn31 : fnB Try.prog 31 = true := by kernel_rfl
theorem fn32 : fnB Try.prog 32 = true := by kernel_rfl
theorem fn33 : fnB Try.prog 33 = true := by kernel_rfl
theorem fn34 : fnB Try.prog 34 = true := by kernel_rfl
theorem fn35 : fnB Try.prog 35 = true := by kernel_rfl
theorem fn36 : fnB Try.prog 36 = true := by kernel_rfl
theorem fn37 : fnB Try.prog 37 = true := by kernel_rfl
theorem fn38 : fnB Try.prog 38 = true := by kernel_rfl
theorem fn39 : fnB Try.prog 39 = true := by kernel_rfl
theorem fn40 : fnB Try.prog 40 = true := by kernel_rfl
theorem fn41 : fnB Try.prog 41 = true := by kernel_rfl
theorem fn42 : fnB Try.prog 42 = true := by kernel_rfl
theorem fn43 : fnB Try.prog 43 = true := by kernel_rfl
theorem fn44 : fnB Try.prog 44 = true := by kernel_rfl
theorem fn45 : fnB Try.prog 45 = true := by kernel_rfl
theorem fn46 : fnB Try.prog 46 = true := by kernel_rfl
theorem fn47 : fnB Try.prog 47 = true := by kernel_rfl
theorem fn48 : fnB Try.prog 48 = true := by kernel_rfl
theorem fn8 : fnB Try.prog 8 = true := by kernel_rfl
theorem fn9 : fnB Try.prog 9 = true := by kernel_rfl
theorem pl28 : placesP Try.prog 28 = some ([(0, 1), (1, 1)], .agg #[.int .i64 0, .int .i64 0]) := by kernel_rfl
theorem pl31 : placesP Try.prog 31 = some ([(0, 1), (1, 1), (2, 1), (3, 1), (4, 1), (5, 1), (6, 2), (8, 1), (9, 1), (10, 1)], .agg #[.int .i64 0, .int .i64 0, .int .i64 0, .int .i64 0, .int .i64 0, .string ByteArray.empty, .int .i64 0, .int .i64 0, .int .i64 0, .int .i64 0, .slice none 0 0]) := by kernel_rfl
theorem pl38 : placesP Try.prog 38 = some ([(0, 1), (1, 1)], .agg #[.int .i64 0, .int .i64 0]) := by kernel_rfl
theorem pl46 : placesP Try.prog 46 = some ([(0, 1), (1, 1)], .agg #[.int .i64 0, .int .i64 0]) := by kernel_rfl
theorem pl55 : placesP Try.prog 55 = some ([(0, 1), (1, 1), (2, 1)], .agg #[.int .i64 0, .int .i64 0, .int .i64 0]) := by kernel_rfl
theorem sl22 : slB Try.prog 22 31 11 112 = true := by kernel_rfl
theorem sl29 : slB Try.prog 29 38 2 16 = true := by kernel_rfl
theorem sl41 : slB Try.prog 41 46 2 16 = true := by kernel_rfl
theorem sl69 : slB Try.prog 69 3 1 8 = true := by kernel_rfl
theorem ty22 : tyB Try.prog 22 false 1 = true := by kernel_rfl
theorem ty24 : tyB Try.prog 24 true 6 = true := by kernel_rfl
theorem ty28 : tyB Try.prog 28 true 2 = true := by kernel_rfl
theorem ty29 : tyB Try.prog 29 false 1 = true := by kernel_rfl
theorem ty3 : tyB Try.prog 3 false 1 = true := by kernel_rfl
theorem ty31 : tyB Try.prog 31 true 11 = true := by kernel_rfl
theorem ty38 : tyB Try.prog 38 true 2 = true := by kernel_rfl
theorem ty46 : tyB Try.prog 46 true 2 = true := by kernel_rfl
theorem ty55 : tyB Try.prog 55 true 3 = true := by kernel_rfl
theorem ty74 : tyB Try.prog 74 true 3 = true := by kernel_rfl
theorem ty9 : tyB Try.prog 9 false 1 = true := by kernel_rfl
theorem un3 : Try.prog.underlying 3 = some (.int .i64) := by kernel_rfl
theorem un36 : Try.prog.underlying 36 = some (.int .u16) := by kernel_rfl
theorem un4 : Try.prog.underlying 4 = some (.bool) := by kernel_rfl
theorem un5 : Try.prog.underlying 5 = some (.int .u8) := by kernel_rfl
theorem un51 : Try.prog.underlying 51 = some (.int .u64) := by kernel_rfl
theorem un9 : Try.prog.underlying 9 = some (.string) := by kernel_rfl
theorem z28 : (Try.prog.info? 28).map (·.zero) = some (some (.agg #[.int .i64 0, .int .i64 0])) := by kernel_rfl
theorem z3 : (Try.prog.info? 3).map (·.zero) = some (some (.int .i64 0)) := by kernel_rfl
theorem z31 : (Try.prog.info? 31).map (·.zero) = some (some (.agg #[.int .i64 0, .int .i64 0, .int .i64 0, .int .i64 0, .int .i64 0, .string ByteArray.empty, .int .i64 0, .int .i64 0, .int .i64 0, .int .i64 0, .slice none 0 0])) := by kernel_rfl
theorem z38 : (Try.prog.info? 38).map (·.zero) = some (some (.agg #[.int .i64 0, .int .i64 0])) := by kernel_rfl
theorem z46 : (Try.prog.info? 46).map (·.zero) = some (some (.agg #[.int .i64 0, .int .i64 0])) := by kernel_rfl
theorem z55 : (Try.prog.info? 55).map (·.zero) = some (some (.agg #[.int .i64 0, .int .i64 0, .int .i64 0])) := by kernel_rfl
theorem z74 : (Try.prog.info? 74).map (·.zero) = some (some (.agg #[.int .i64 0, .int .i64 0, .int .i64 0])) := by kernel_rfl
end Go.Proofs.Ytjpooimkhkhgkaa.W
