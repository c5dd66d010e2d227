/- Written by a program of ours (wip/eng/gen.py): closed facts on the types; the cells of the structures. -/
import Derived.Test.YthpblkclpfmbeaaModel
import Derived.Test.YthpblkclpfmbeaaProg
import Derived.KernelRfl
namespace Go.Proofs.Ythpblkclpfmbeaa.W
open Go Go.Proofs Go.Proofs.Ythpblkclpfmbeaa.E Go.Proofs.Ythpblkclpfmbeaa.M
set_option linter.unusedVariables false
def cSRule (x : SRule) (j : Nat) : Cell := match j with
  | 0 => .int .u64 x.Mask
  | 1 => .int .i64 x.Most
  | _ => .any

theorem mixed : Try.prog.follows .mixedOrders = true := by kernel_rfl
theorem fb35 : funcB Try.prog 35 = true := by kernel_rfl
theorem fd51_0 : fdB Try.prog 51 0 0 = true := by kernel_rfl
theorem fd51_1 : fdB Try.prog 51 1 1 = true := by kernel_rfl
theorem fd54_0 : fdB Try.prog 54 0 0 = true := by kernel_rfl
theorem fd54_1 : fdB Try.prog 54 1 1 = true := by kernel_rfl
theorem fd54_2 : fdB Try.prog 54 2 2 = true := by kernel_rfl
theorem fd54_3 : fdB Try.prog 54 3 3 = true := by kernel_rfl
theorem fd54_4 : fdB Try.prog 54 4 4 = true := by kernel_rfl
theorem fn10 : fnB Try.prog 10 = true := by kernel_rfl
theorem fn11 : fnB Try.prog 11 = true := by kernel_rfl
theorem fn12 : fnB Try.prog 12 = true := by kernel_rfl
theorem fn13 : fnB Try.prog 13 = true := by kernel_rfl
theorem fn14 : fnB Try.prog 14 = true := by kernel_rfl
theorem fn15 : fnB Try.prog 15 = true := by kernel_rfl
theorem fn16 : fnB Try.prog 16 = true := by kernel_rfl
theorem fn17 : fnB Try.prog 17 = true := by kernel_rfl
theorem fn18 : fnB Try.prog 18 = true := by kernel_rfl
theorem fn19 : fnB Try.prog 19 = true := by kernel_rfl
theorem fn20 : fnB Try.prog 20 = true := by kernel_rfl
theorem fn21 : fnB Try.prog 21 = true := by kernel_rfl
theorem fn22 : fnB Try.prog 22 = true := by kernel_rfl
theorem fn23 : fnB Try.prog 23 = true := by kernel_rfl
theorem fn24 : fnB Try.prog 24 = true := by kernel_rfl
theorem fn25 : fnB Try.prog 25 = true := by kernel_rfl
theorem fn26 : fnB Try.prog 26 = true := by kernel_rfl
theorem fn27 : fnB Try.prog 27 = true := by kernel_rfl
theorem fn28 : fnB Try.prog 28 = true := by kernel_rfl
theorem fn29 : fnB Try.prog 29 = true := by kernel_rfl
theorem fn30 : fnB Try.prog 30 = true := by kernel_rfl
theorem fn31 : fnB Try.prog 31 = true := by kernel_rfl
theorem fn32 : fnB Try.prog 32 = true := by kernel_rfl
theorem fn33 : fnB Try.prog 33 = true := by kernel_rfl
theorem fn34 : fnB Try.prog 34 = true := by kernel_rfl
theorem fn35 : fnB Try.prog 35 = true := by kernel_rfl
theorem fn36 : fnB Try.prog 36 = true := by kernel_rfl
theorem fn37 : fnB Try.prog 37 = true := by kernel_rfl
theorem fn39 : fnB Try.prog 39 = true := by kernel_rfl
theorem fn40 : fnB Try.prog 40 = true := by kernel_rfl
theorem fn41 : fnB Try.prog 41 = true := by kernel_rfl
theorem fn42 : fnB Try.prog 42 = true := by kernel_rfl
theorem fn9 : fnB Try.prog 9 = true := by kernel_rfl
theorem if20 : ifaceB Try.prog 20 = true := by kernel_rfl
theorem pl54 : placesP Try.prog 54 = some ([(0, 1), (1, 1), (2, 1), (3, 1), (4, 1)], .agg #[.slice none 0 0, .nilFunc, .slice none 0 0, .slice none 0 0, .slice none 0 0]) := by kernel_rfl
theorem sl22 : slB Try.prog 22 3 1 8 = true := by kernel_rfl
theorem sl31 : slB Try.prog 31 51 2 16 = true := by kernel_rfl
theorem sl52 : slB Try.prog 52 4 1 1 = true := by kernel_rfl
theorem ty22 : tyB Try.prog 22 false 1 = true := by kernel_rfl
theorem ty24 : tyB Try.prog 24 false 1 = true := by kernel_rfl
theorem ty3 : tyB Try.prog 3 false 1 = true := by kernel_rfl
theorem ty35 : tyB Try.prog 35 false 1 = true := by kernel_rfl
theorem ty4 : tyB Try.prog 4 false 1 = true := by kernel_rfl
theorem ty49 : tyB Try.prog 49 false 1 = true := by kernel_rfl
theorem ty52 : tyB Try.prog 52 false 1 = true := by kernel_rfl
theorem ty54 : tyB Try.prog 54 true 5 = true := by kernel_rfl
theorem us22 : Try.prog.underlying 22 = some (.slice 3) := by kernel_rfl
theorem z22 : (Try.prog.info? 22).map (·.zero) = some (some (.slice none 0 0)) := by kernel_rfl
theorem z24 : (Try.prog.info? 24).map (·.zero) = some (some (.int .i64 0)) := by kernel_rfl
theorem z3 : (Try.prog.info? 3).map (·.zero) = some (some (.int .i64 0)) := by kernel_rfl
theorem z4 : (Try.prog.info? 4).map (·.zero) = some (some (.bool false)) := by kernel_rfl
theorem z54 : (Try.prog.info? 54).map (·.zero) = some (some (.agg #[.slice none 0 0, .nilFunc, .slice none 0 0, .slice none 0 0, .slice none 0 0])) := by kernel_rfl
end Go.Proofs.Ythpblkclpfmbeaa.W
