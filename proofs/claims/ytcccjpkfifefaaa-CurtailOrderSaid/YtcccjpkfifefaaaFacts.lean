/- Written by a program of ours (wip/eng/gen.py): closed facts on the types; the cells of the structures. -/
import Derived.Test.YtcccjpkfifefaaaModel
import Derived.Test.YtcccjpkfifefaaaProg
import Derived.KernelRfl
namespace Go.Proofs.Ytcccjpkfifefaaa.W
open Go Go.Proofs Go.Proofs.Ytcccjpkfifefaaa.E Go.Proofs.Ytcccjpkfifefaaa.M
set_option linter.unusedVariables false
def cSSpan (x : SSpan) (j : Nat) : Cell := match j with
  | 0 => .int .i64 x.From
  | 1 => .int .i64 x.To
  | _ => .any
def cSCurtail (x : SCurtail) (j : Nat) : Cell := match j with
  | 0 => .str x.Name
  | 1 => .int .i64 x.Version
  | 2 => .int .i64 x.Feeder
  | 3 => .int .i64 x.Span_From
  | 4 => .int .i64 x.Span_To
  | 5 => .int .i64 x.Total
  | 6 => .bool x.Cancelled
  | _ => .any
def cSTri (x : STri) (j : Nat) : Cell := match j with
  | 0 => .int .i64 x.A
  | 1 => .int .i64 x.B
  | 2 => .int .i64 x.C
  | _ => .any
def cSFeeder (x : SFeeder) (j : Nat) : Cell := match j with
  | 0 => .str x.Name
  | 1 => .int .i64 x.Parent
  | 2 => .int .i64 x.Rated_A
  | 3 => .int .i64 x.Rated_B
  | 4 => .int .i64 x.Rated_C
  | _ => .any
def cSPoint (x : SPoint) (j : Nat) : Cell := match j with
  | 0 => .str x.Name
  | 1 => .int .i64 x.Feeder
  | 2 => .int .i64 x.Phases
  | 3 => .int .i64 x.Rated
  | 4 => .int .i64 x.Min
  | _ => .any
def cSSite (x : SSite) (j : Nat) : Cell := match j with
  | 0 => .str x.Name
  | 1 => .vec x.Feeders.length 5 (gL cSFeeder dSFeeder x.Feeders)
  | 2 => .vec x.Points.length 5 (gL cSPoint dSPoint x.Points)
  | _ => .any
theorem oneSCurtail : ∀ (a : SCurtail) (j : Nat), j < 7 → (cSCurtail a j).one = true := by
  intro a j h
  match j, h with
  | 0, _ => rfl
  | 1, _ => rfl
  | 2, _ => rfl
  | 3, _ => rfl
  | 4, _ => rfl
  | 5, _ => rfl
  | 6, _ => rfl
theorem mixed : Try.prog.follows .mixedOrders = true := by kernel_rfl
theorem ar55 : arrB Try.prog 55 3 2 1 = true := by kernel_rfl
theorem eqt25 : eqTypeB Try.prog 25 [.str ByteArray.empty, .int .i64 0, .int .i64 0, .int .i64 0, .int .i64 0, .int .i64 0, .bool false] = true := by kernel_rfl
theorem fd23_0 : fdB Try.prog 23 0 0 = true := by kernel_rfl
theorem fd23_1 : fdB Try.prog 23 1 1 = true := by kernel_rfl
theorem fd25_0 : fdB Try.prog 25 0 0 = true := by kernel_rfl
theorem fd25_1 : fdB Try.prog 25 1 1 = true := by kernel_rfl
theorem fd25_2 : fdB Try.prog 25 2 2 = true := by kernel_rfl
theorem fd25_3 : fdB Try.prog 25 3 3 = true := by kernel_rfl
theorem fd25_4 : fdB Try.prog 25 4 5 = true := by kernel_rfl
theorem fd25_5 : fdB Try.prog 25 5 6 = true := by kernel_rfl
theorem fd30_1 : fdB Try.prog 30 1 1 = true := by kernel_rfl
theorem fn10 : fnB Try.prog 10 = true := by kernel_rfl
theorem fn11 : fnB Try.prog 11 = true := by kernel_rfl
theorem fn12 : fnB Try.prog 12 = true := by kernel_rfl
theorem fn13 : fnB Try.prog 13 = true := by kernel_rfl
theorem fn14 : fnB Try.prog 14 = true := by kernel_rfl
theorem fn15 : fnB Try.prog 15 = true := by kernel_rfl
theorem fn16 : fnB Try.prog 16 = true := by kernel_rfl
theorem fn17 : fnB Try.prog 17 = true := by kernel_rfl
theorem fn18 : fnB Try.prog 18 = true := by kernel_rfl
theorem fn19 : fnB Try.prog 19 = true := by kernel_rfl
theorem fn20 : fnB Try.prog 20 = true := by kernel_rfl
theorem fn21 : fnB Try.prog 21 = true := by kernel_rfl
theorem fn22 : fnB Try.prog 22 = true := by kernel_rfl
theorem fn23 : fnB Try.prog 23 = true := by kernel_rfl
theorem fn24 : fnB Try.prog 24 = true := by kernel_rfl
theorem fn25 : fnB Try.prog 25 = true := by kernel_rfl
theorem fn26 : fnB Try.prog 26 = true := by kernel_rfl
theorem fn27 : fnB Try.prog 27 = true := by kernel_rfl
theorem fn28 : fnB Try.prog 28 = true := by kernel_rfl
theorem fn29 : fnB Try.prog 29 = true := by kernel_rfl
theorem fn30 : fnB Try.prog 30 = true := by kernel_rfl
theorem fn31 : fnB Try.prog 31 = true := by kernel_rfl
theorem fn32 : fnB Try.prog 32 = true := by kernel_rfl
theorem fn33 : fnB Try.prog 33 = true := by kernel_rfl
theorem fn36 : fnB Try.prog 36 = true := by kernel_rfl
theorem fn37 : fnB Try.prog 37 = true := by kernel_rfl
theorem fn49 : fnB Try.prog 49 = true := by kernel_rfl
theorem fn9 : fnB Try.prog 9 = true := by kernel_rfl
theorem pl23 : placesP Try.prog 23 = some ([(0, 1), (1, 1)], .agg #[.int .i64 0, .int .i64 0]) := by kernel_rfl
theorem pl25 : placesP Try.prog 25 = some ([(0, 1), (1, 1), (2, 1), (3, 2), (5, 1), (6, 1)], .agg #[.string ByteArray.empty, .int .i64 0, .int .i64 0, .int .i64 0, .int .i64 0, .int .i64 0, .bool false]) := by kernel_rfl
theorem pl30 : placesP Try.prog 30 = some ([(0, 1), (1, 1), (2, 1)], .agg #[.string ByteArray.empty, .slice none 0 0, .slice none 0 0]) := by kernel_rfl
theorem sl27 : slB Try.prog 27 108 5 48 = true := by kernel_rfl
theorem sl34 : slB Try.prog 34 25 7 64 = true := by kernel_rfl
theorem sl46 : slB Try.prog 46 5 1 1 = true := by kernel_rfl
theorem sl54 : slB Try.prog 54 3 1 8 = true := by kernel_rfl
theorem ty25 : tyB Try.prog 25 true 7 = true := by kernel_rfl
theorem ty27 : tyB Try.prog 27 false 1 = true := by kernel_rfl
theorem ty3 : tyB Try.prog 3 false 1 = true := by kernel_rfl
theorem ty30 : tyB Try.prog 30 true 3 = true := by kernel_rfl
theorem ty4 : tyB Try.prog 4 false 1 = true := by kernel_rfl
theorem ty5 : tyB Try.prog 5 false 1 = true := by kernel_rfl
theorem ty9 : tyB Try.prog 9 false 1 = true := by kernel_rfl
theorem un21 : Try.prog.underlying 21 = some (.int .i32) := by kernel_rfl
theorem un3 : Try.prog.underlying 3 = some (.int .i64) := by kernel_rfl
theorem un44 : Try.prog.underlying 44 = some (.int .u16) := by kernel_rfl
theorem un5 : Try.prog.underlying 5 = some (.int .u8) := by kernel_rfl
theorem un9 : Try.prog.underlying 9 = some (.string) := by kernel_rfl
theorem us34 : Try.prog.underlying 34 = some (.slice 25) := by kernel_rfl
theorem z108 : (Try.prog.info? 108).map (·.zero) = some (some (.agg #[.string ByteArray.empty, .int .i64 0, .int .i64 0, .int .i64 0, .int .i64 0])) := by kernel_rfl
theorem z25 : (Try.prog.info? 25).map (·.zero) = some (some (.agg #[.string ByteArray.empty, .int .i64 0, .int .i64 0, .int .i64 0, .int .i64 0, .int .i64 0, .bool false])) := by kernel_rfl
theorem z3 : (Try.prog.info? 3).map (·.zero) = some (some (.int .i64 0)) := by kernel_rfl
theorem z30 : (Try.prog.info? 30).map (·.zero) = some (some (.agg #[.string ByteArray.empty, .slice none 0 0, .slice none 0 0])) := by kernel_rfl
theorem z55 : (Try.prog.info? 55).map (·.zero) = some (some (.agg #[.int .i64 0, .int .i64 0])) := by kernel_rfl
end Go.Proofs.Ytcccjpkfifefaaa.W
