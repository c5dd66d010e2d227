/- Written by a program of ours (wip/eng/gen.py): closed facts on the types; the cells of the structures. -/
import Derived.Test.YtbepoingholchaaModel
import Derived.Test.YtbepoingholchaaProg
import Derived.KernelRfl
namespace Go.Proofs.Ytbepoingholchaa.W
open Go Go.Proofs Go.Proofs.Ytbepoingholchaa.E Go.Proofs.Ytbepoingholchaa.M
set_option linter.unusedVariables false
def cSArc (x : SArc) (j : Nat) : Cell := match j with
  | 0 => .int .i64 x.From
  | 1 => .int .i64 x.To
  | 2 => .int .i64 x.Cap
  | _ => .any
def cSNet (x : SNet) (j : Nat) : Cell := match j with
  | 0 => .int .i64 x.Nodes
  | 1 => .vec x.Arcs.length 3 (gL cSArc dSArc x.Arcs)
  | _ => .any
def cSEdge (x : SEdge) (j : Nat) : Cell := match j with
  | 0 => .int .i64 x.to
  | 1 => .int .i64 x.room
  | _ => .any
def cSClaim (x : SClaim) (j : Nat) : Cell := match j with
  | 0 => .int .i64 x.N_Nodes
  | 1 => .vec x.N_Arcs.length 3 (gL cSArc dSArc x.N_Arcs)
  | 2 => .int .i64 x.Source
  | 3 => .int .i64 x.Sink
  | 4 => .vec x.L.length 1 (gL (cInt .i64) 0 x.L)
  | _ => .any
theorem oneSEdge : ∀ (a : SEdge) (j : Nat), j < 2 → (cSEdge a j).one = true := by
  intro a j h
  match j, h with
  | 0, _ => rfl
  | 1, _ => rfl
theorem oneSArc : ∀ (a : SArc) (j : Nat), j < 3 → (cSArc a j).one = true := by
  intro a j h
  match j, h with
  | 0, _ => rfl
  | 1, _ => rfl
  | 2, _ => rfl
theorem mixed : Try.prog.follows .mixedOrders = true := by kernel_rfl
theorem fd24_0 : fdB Try.prog 24 0 0 = true := by kernel_rfl
theorem fd24_1 : fdB Try.prog 24 1 1 = true := by kernel_rfl
theorem fd42_0 : fdB Try.prog 42 0 0 = true := by kernel_rfl
theorem fd42_1 : fdB Try.prog 42 1 2 = true := by kernel_rfl
theorem fd42_2 : fdB Try.prog 42 2 3 = true := by kernel_rfl
theorem fd42_3 : fdB Try.prog 42 3 4 = true := by kernel_rfl
theorem fd50_0 : fdB Try.prog 50 0 0 = true := by kernel_rfl
theorem fd50_1 : fdB Try.prog 50 1 1 = true := by kernel_rfl
theorem fd50_2 : fdB Try.prog 50 2 2 = true := by kernel_rfl
theorem fd59_0 : fdB Try.prog 59 0 0 = true := by kernel_rfl
theorem fd59_1 : fdB Try.prog 59 1 1 = true := by kernel_rfl
theorem fd63_0 : fdB Try.prog 63 0 0 = true := by kernel_rfl
theorem fd63_1 : fdB Try.prog 63 1 1 = true := by kernel_rfl
theorem fd63_2 : fdB Try.prog 63 2 2 = true := by kernel_rfl
theorem fd63_3 : fdB Try.prog 63 3 3 = true := by kernel_rfl
theorem fn11 : fnB Try.prog 11 = true := by kernel_rfl
theorem fn12 : fnB Try.prog 12 = true := by kernel_rfl
theorem fn13 : fnB Try.prog 13 = true := by kernel_rfl
theorem fn14 : fnB Try.prog 14 = true := by kernel_rfl
theorem fn15 : fnB Try.prog 15 = true := by kernel_rfl
theorem fn16 : fnB Try.prog 16 = true := by kernel_rfl
theorem fn17 : fnB Try.prog 17 = true := by kernel_rfl
theorem fn18 : fnB Try.prog 18 = true := by kernel_rfl
theorem fn19 : fnB Try.prog 19 = true := by kernel_rfl
theorem fn20 : fnB Try.prog 20 = true := by kernel_rfl
theorem fn21 : fnB Try.prog 21 = true := by kernel_rfl
theorem fn22 : fnB Try.prog 22 = true := by kernel_rfl
theorem fn23 : fnB Try.prog 23 = true := by kernel_rfl
theorem fn24 : fnB Try.prog 24 = true := by kernel_rfl
theorem fn25 : fnB Try.prog 25 = true := by kernel_rfl
theorem fn26 : fnB Try.prog 26 = true := by kernel_rfl
theorem fn27 : fnB Try.prog 27 = true := by kernel_rfl
theorem fn28 : fnB Try.prog 28 = true := by kernel_rfl
theorem fn29 : fnB Try.prog 29 = true := by kernel_rfl
theorem fn30 : fnB Try.prog 30 = true := by kernel_rfl
theorem fn31 : fnB Try.prog 31 = true := by kernel_rfl
theorem fn32 : fnB Try.prog 32 = true := by kernel_rfl
theorem fn33 : fnB Try.prog 33 = true := by kernel_rfl
theorem fn34 : fnB Try.prog 34 = true := by kernel_rfl
theorem pl24 : placesP Try.prog 24 = some ([(0, 1), (1, 1)], .agg #[.int .i64 0, .slice none 0 0]) := by kernel_rfl
theorem pl50 : placesP Try.prog 50 = some ([(0, 1), (1, 1), (2, 1)], .agg #[.int .i64 0, .int .i64 0, .int .i64 0]) := by kernel_rfl
theorem pl59 : placesP Try.prog 59 = some ([(0, 1), (1, 1)], .agg #[.int .i64 0, .int .i64 0]) := by kernel_rfl
theorem pl63 : placesP Try.prog 63 = some ([(0, 1), (1, 1), (2, 1), (3, 1)], .agg #[.slice none 0 0, .slice none 0 0, .slice none 0 0, .slice none 0 0]) := by kernel_rfl
theorem sl22 : slB Try.prog 22 50 3 24 = true := by kernel_rfl
theorem sl30 : slB Try.prog 30 3 1 8 = true := by kernel_rfl
theorem sl35 : slB Try.prog 35 4 1 1 = true := by kernel_rfl
theorem sl60 : slB Try.prog 60 59 2 16 = true := by kernel_rfl
theorem sl61 : slB Try.prog 61 30 1 24 = true := by kernel_rfl
theorem ty22 : tyB Try.prog 22 false 1 = true := by kernel_rfl
theorem ty24 : tyB Try.prog 24 true 2 = true := by kernel_rfl
theorem ty3 : tyB Try.prog 3 false 1 = true := by kernel_rfl
theorem ty30 : tyB Try.prog 30 false 1 = true := by kernel_rfl
theorem ty4 : tyB Try.prog 4 false 1 = true := by kernel_rfl
theorem ty50 : tyB Try.prog 50 true 3 = true := by kernel_rfl
theorem ty60 : tyB Try.prog 60 false 1 = true := by kernel_rfl
theorem ty61 : tyB Try.prog 61 false 1 = true := by kernel_rfl
theorem un3 : Try.prog.underlying 3 = some (.int .i64) := by kernel_rfl
theorem un4 : Try.prog.underlying 4 = some (.bool) := by kernel_rfl
theorem un47 : Try.prog.underlying 47 = some (.int .u64) := by kernel_rfl
theorem un5 : Try.prog.underlying 5 = some (.int .u8) := by kernel_rfl
theorem un51 : Try.prog.underlying 51 = some (.int .u32) := by kernel_rfl
theorem z24 : (Try.prog.info? 24).map (·.zero) = some (some (.agg #[.int .i64 0, .slice none 0 0])) := by kernel_rfl
theorem z3 : (Try.prog.info? 3).map (·.zero) = some (some (.int .i64 0)) := by kernel_rfl
theorem z30 : (Try.prog.info? 30).map (·.zero) = some (some (.slice none 0 0)) := by kernel_rfl
theorem z4 : (Try.prog.info? 4).map (·.zero) = some (some (.bool false)) := by kernel_rfl
theorem z50 : (Try.prog.info? 50).map (·.zero) = some (some (.agg #[.int .i64 0, .int .i64 0, .int .i64 0])) := by kernel_rfl
theorem z59 : (Try.prog.info? 59).map (·.zero) = some (some (.agg #[.int .i64 0, .int .i64 0])) := by kernel_rfl
end Go.Proofs.Ytbepoingholchaa.W
