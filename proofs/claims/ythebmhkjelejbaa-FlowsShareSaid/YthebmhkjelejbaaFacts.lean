/- Written by a program of ours (wip/eng/gen.py): closed facts on the types; the cells of the structures. -/
import Derived.Test.YthebmhkjelejbaaModel
import Derived.Test.YthebmhkjelejbaaProg
import Derived.KernelRfl
namespace Go.Proofs.Ythebmhkjelejbaa.W
open Go Go.Proofs Go.Proofs.Ythebmhkjelejbaa.E Go.Proofs.Ythebmhkjelejbaa.M
set_option linter.unusedVariables false
def cSArc (x : SArc) (j : Nat) : Cell := match j with
  | 0 => .int .i64 x.From
  | 1 => .int .i64 x.To
  | 2 => .int .i64 x.Cap
  | _ => .any
def cSNet (x : SNet) (j : Nat) : Cell := match j with
  | 0 => .int .i64 x.Nodes
  | 1 => .vec x.Arcs.length 3 (gL cSArc dSArc x.Arcs)
  | _ => .any
def cSEdge (x : SEdge) (j : Nat) : Cell := match j with
  | 0 => .int .i64 x.to
  | 1 => .int .i64 x.room
  | _ => .any
theorem oneSArc : ∀ (a : SArc) (j : Nat), j < 3 → (cSArc a j).one = true := by
  intro a j h
  match j, h with
  | 0, _ => rfl
  | 1, _ => rfl
  | 2, _ => rfl
theorem oneSEdge : ∀ (a : SEdge) (j : Nat), j < 2 → (cSEdge a j).one = true := by
  intro a j h
  match j, h with
  | 0, _ => rfl
  | 1, _ => rfl
theorem mixed : Try.prog.follows .mixedOrders = true := by kernel_rfl
theorem fb31 : funcB Try.prog 31 = true := by kernel_rfl
theorem fd24_0 : fdB Try.prog 24 0 0 = true := by kernel_rfl
theorem fd24_1 : fdB Try.prog 24 1 1 = true := by kernel_rfl
theorem fd24_2 : fdB Try.prog 24 2 2 = true := by kernel_rfl
theorem fd27_0 : fdB Try.prog 27 0 0 = true := by kernel_rfl
theorem fd27_1 : fdB Try.prog 27 1 1 = true := by kernel_rfl
theorem fd41_0 : fdB Try.prog 41 0 0 = true := by kernel_rfl
theorem fd41_1 : fdB Try.prog 41 1 1 = true := by kernel_rfl
theorem fd45_0 : fdB Try.prog 45 0 0 = true := by kernel_rfl
theorem fd45_1 : fdB Try.prog 45 1 1 = true := by kernel_rfl
theorem fd45_2 : fdB Try.prog 45 2 2 = true := by kernel_rfl
theorem fd45_3 : fdB Try.prog 45 3 3 = true := by kernel_rfl
theorem fd49_0 : fdB Try.prog 49 0 0 = true := by kernel_rfl
theorem fd49_1 : fdB Try.prog 49 1 1 = true := by kernel_rfl
theorem fd49_2 : fdB Try.prog 49 2 2 = true := by kernel_rfl
theorem fd49_3 : fdB Try.prog 49 3 3 = true := by kernel_rfl
theorem fd49_4 : fdB Try.prog 49 4 4 = true := by kernel_rfl
theorem fn10 : fnB Try.prog 10 = true := by kernel_rfl
theorem fn11 : fnB Try.prog 11 = true := by kernel_rfl
theorem fn12 : fnB Try.prog 12 = true := by kernel_rfl
theorem fn13 : fnB Try.prog 13 = true := by kernel_rfl
theorem fn14 : fnB Try.prog 14 = true := by kernel_rfl
theorem fn15 : fnB Try.prog 15 = true := by kernel_rfl
theorem fn16 : fnB Try.prog 16 = true := by kernel_rfl
theorem fn17 : fnB Try.prog 17 = true := by kernel_rfl
theorem fn18 : fnB Try.prog 18 = true := by kernel_rfl
theorem fn19 : fnB Try.prog 19 = true := by kernel_rfl
theorem fn20 : fnB Try.prog 20 = true := by kernel_rfl
theorem fn21 : fnB Try.prog 21 = true := by kernel_rfl
theorem fn22 : fnB Try.prog 22 = true := by kernel_rfl
theorem fn23 : fnB Try.prog 23 = true := by kernel_rfl
theorem fn4 : fnB Try.prog 4 = true := by kernel_rfl
theorem fn5 : fnB Try.prog 5 = true := by kernel_rfl
theorem fn6 : fnB Try.prog 6 = true := by kernel_rfl
theorem fn7 : fnB Try.prog 7 = true := by kernel_rfl
theorem fn8 : fnB Try.prog 8 = true := by kernel_rfl
theorem fn9 : fnB Try.prog 9 = true := by kernel_rfl
theorem if20 : ifaceB Try.prog 20 = true := by kernel_rfl
theorem pl24 : placesP Try.prog 24 = some ([(0, 1), (1, 1), (2, 1)], .agg #[.int .i64 0, .int .i64 0, .int .i64 0]) := by kernel_rfl
theorem pl27 : placesP Try.prog 27 = some ([(0, 1), (1, 1)], .agg #[.int .i64 0, .slice none 0 0]) := by kernel_rfl
theorem pl41 : placesP Try.prog 41 = some ([(0, 1), (1, 1)], .agg #[.int .i64 0, .int .i64 0]) := by kernel_rfl
theorem pl45 : placesP Try.prog 45 = some ([(0, 1), (1, 1), (2, 1), (3, 1)], .agg #[.slice none 0 0, .slice none 0 0, .slice none 0 0, .slice none 0 0]) := by kernel_rfl
theorem pl49 : placesP Try.prog 49 = some ([(0, 1), (1, 1), (2, 1), (3, 1), (4, 1)], .agg #[.slice none 0 0, .nilFunc, .slice none 0 0, .slice none 0 0, .slice none 0 0]) := by kernel_rfl
theorem sl22 : slB Try.prog 22 3 1 8 = true := by kernel_rfl
theorem sl25 : slB Try.prog 25 24 3 24 = true := by kernel_rfl
theorem sl42 : slB Try.prog 42 41 2 16 = true := by kernel_rfl
theorem sl43 : slB Try.prog 43 22 1 24 = true := by kernel_rfl
theorem sl47 : slB Try.prog 47 4 1 1 = true := by kernel_rfl
theorem ty22 : tyB Try.prog 22 false 1 = true := by kernel_rfl
theorem ty24 : tyB Try.prog 24 true 3 = true := by kernel_rfl
theorem ty25 : tyB Try.prog 25 false 1 = true := by kernel_rfl
theorem ty27 : tyB Try.prog 27 true 2 = true := by kernel_rfl
theorem ty28 : tyB Try.prog 28 false 1 = true := by kernel_rfl
theorem ty3 : tyB Try.prog 3 false 1 = true := by kernel_rfl
theorem ty31 : tyB Try.prog 31 false 1 = true := by kernel_rfl
theorem ty4 : tyB Try.prog 4 false 1 = true := by kernel_rfl
theorem ty42 : tyB Try.prog 42 false 1 = true := by kernel_rfl
theorem ty43 : tyB Try.prog 43 false 1 = true := by kernel_rfl
theorem ty47 : tyB Try.prog 47 false 1 = true := by kernel_rfl
theorem ty49 : tyB Try.prog 49 true 5 = true := by kernel_rfl
theorem us22 : Try.prog.underlying 22 = some (.slice 3) := by kernel_rfl
theorem z22 : (Try.prog.info? 22).map (·.zero) = some (some (.slice none 0 0)) := by kernel_rfl
theorem z24 : (Try.prog.info? 24).map (·.zero) = some (some (.agg #[.int .i64 0, .int .i64 0, .int .i64 0])) := by kernel_rfl
theorem z27 : (Try.prog.info? 27).map (·.zero) = some (some (.agg #[.int .i64 0, .slice none 0 0])) := by kernel_rfl
theorem z28 : (Try.prog.info? 28).map (·.zero) = some (some (.int .i64 0)) := by kernel_rfl
theorem z3 : (Try.prog.info? 3).map (·.zero) = some (some (.int .i64 0)) := by kernel_rfl
theorem z4 : (Try.prog.info? 4).map (·.zero) = some (some (.bool false)) := by kernel_rfl
theorem z41 : (Try.prog.info? 41).map (·.zero) = some (some (.agg #[.int .i64 0, .int .i64 0])) := by kernel_rfl
theorem z49 : (Try.prog.info? 49).map (·.zero) = some (some (.agg #[.slice none 0 0, .nilFunc, .slice none 0 0, .slice none 0 0, .slice none 0 0])) := by kernel_rfl
end Go.Proofs.Ythebmhkjelejbaa.W
