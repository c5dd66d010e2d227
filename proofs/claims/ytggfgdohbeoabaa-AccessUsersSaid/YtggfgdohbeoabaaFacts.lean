/- Written by a program of ours (wip/eng/gen.py): closed facts on the types; the cells of the structures. -/
import Derived.Test.YtggfgdohbeoabaaModel
import Derived.Test.YtggfgdohbeoabaaProg
import Derived.KernelRfl
namespace Go.Proofs.Ytggfgdohbeoabaa.W
open Go Go.Proofs Go.Proofs.Ytggfgdohbeoabaa.E Go.Proofs.Ytggfgdohbeoabaa.M
set_option linter.unusedVariables false
def cSRole (x : SRole) (j : Nat) : Cell := match j with
  | 0 => .str x.Name
  | 1 => .vec x.Actions.length 1 (gL (cInt .i64) 0 x.Actions)
  | 2 => .str x.Prefix
  | 3 => .bool x.Deny
  | _ => .any
def cSSpan (x : SSpan) (j : Nat) : Cell := match j with
  | 0 => .int .i64 x.From
  | 1 => .int .i64 x.To
  | _ => .any
def cSGrant (x : SGrant) (j : Nat) : Cell := match j with
  | 0 => .str x.User
  | 1 => .str x.Role
  | 2 => .int .i64 x.Span_From
  | 3 => .int .i64 x.Span_To
  | _ => .any
def cSCase (x : SCase) (j : Nat) : Cell := match j with
  | 0 => .vec x.Roles.length 4 (gL cSRole dSRole x.Roles)
  | 1 => .vec x.Grants.length 4 (gL cSGrant dSGrant x.Grants)
  | _ => .any
def cSAsk (x : SAsk) (j : Nat) : Cell := match j with
  | 0 => .str x.User
  | 1 => .int .i64 x.Action
  | 2 => .str x.Object
  | 3 => .int .i64 x.Now
  | _ => .any
theorem oneSGrant : ∀ (a : SGrant) (j : Nat), j < 4 → (cSGrant a j).one = true := by
  intro a j h
  match j, h with
  | 0, _ => rfl
  | 1, _ => rfl
  | 2, _ => rfl
  | 3, _ => rfl
theorem mixed : Try.prog.follows .mixedOrders = true := by kernel_rfl
theorem eqt35 : eqTypeB Try.prog 35 [.int .i64 0, .int .i64 0] = true := by kernel_rfl
theorem eqt37 : eqTypeB Try.prog 37 [.str ByteArray.empty, .str ByteArray.empty, .int .i64 0, .int .i64 0] = true := by kernel_rfl
theorem fd25_0 : fdB Try.prog 25 0 0 = true := by kernel_rfl
theorem fd25_1 : fdB Try.prog 25 1 1 = true := by kernel_rfl
theorem fd31_0 : fdB Try.prog 31 0 0 = true := by kernel_rfl
theorem fd31_1 : fdB Try.prog 31 1 1 = true := by kernel_rfl
theorem fd31_2 : fdB Try.prog 31 2 2 = true := by kernel_rfl
theorem fd31_3 : fdB Try.prog 31 3 3 = true := by kernel_rfl
theorem fd35_0 : fdB Try.prog 35 0 0 = true := by kernel_rfl
theorem fd35_1 : fdB Try.prog 35 1 1 = true := by kernel_rfl
theorem fd37_0 : fdB Try.prog 37 0 0 = true := by kernel_rfl
theorem fd37_1 : fdB Try.prog 37 1 1 = true := by kernel_rfl
theorem fd37_2 : fdB Try.prog 37 2 2 = true := by kernel_rfl
theorem fd51_0 : fdB Try.prog 51 0 0 = true := by kernel_rfl
theorem fd51_1 : fdB Try.prog 51 1 1 = true := by kernel_rfl
theorem fd51_2 : fdB Try.prog 51 2 2 = true := by kernel_rfl
theorem fd51_3 : fdB Try.prog 51 3 3 = true := by kernel_rfl
theorem fn10 : fnB Try.prog 10 = true := by kernel_rfl
theorem fn11 : fnB Try.prog 11 = true := by kernel_rfl
theorem fn12 : fnB Try.prog 12 = true := by kernel_rfl
theorem fn13 : fnB Try.prog 13 = true := by kernel_rfl
theorem fn14 : fnB Try.prog 14 = true := by kernel_rfl
theorem fn15 : fnB Try.prog 15 = true := by kernel_rfl
theorem fn16 : fnB Try.prog 16 = true := by kernel_rfl
theorem fn17 : fnB Try.prog 17 = true := by kernel_rfl
theorem fn18 : fnB Try.prog 18 = true := by kernel_rfl
theorem fn19 : fnB Try.prog 19 = true := by kernel_rfl
theorem fn20 : fnB Try.prog 20 = true := by kernel_rfl
theorem fn21 : fnB Try.prog 21 = true := by kernel_rfl
theorem fn22 : fnB Try.prog 22 = true := by kernel_rfl
theorem fn23 : fnB Try.prog 23 = true := by kernel_rfl
theorem fn24 : fnB Try.prog 24 = true := by kernel_rfl
theorem fn25 : fnB Try.prog 25 = true := by kernel_rfl
theorem fn26 : fnB Try.prog 26 = true := by kernel_rfl
theorem fn27 : fnB Try.prog 27 = true := by kernel_rfl
theorem fn28 : fnB Try.prog 28 = true := by kernel_rfl
theorem fn29 : fnB Try.prog 29 = true := by kernel_rfl
theorem fn30 : fnB Try.prog 30 = true := by kernel_rfl
theorem fn31 : fnB Try.prog 31 = true := by kernel_rfl
theorem fn32 : fnB Try.prog 32 = true := by kernel_rfl
theorem fn33 : fnB Try.prog 33 = true := by kernel_rfl
theorem fn34 : fnB Try.prog 34 = true := by kernel_rfl
theorem fn35 : fnB Try.prog 35 = true := by kernel_rfl
theorem fn36 : fnB Try.prog 36 = true := by kernel_rfl
theorem fn37 : fnB Try.prog 37 = true := by kernel_rfl
theorem fn38 : fnB Try.prog 38 = true := by kernel_rfl
theorem fn39 : fnB Try.prog 39 = true := by kernel_rfl
theorem fn40 : fnB Try.prog 40 = true := by kernel_rfl
theorem fn41 : fnB Try.prog 41 = true := by kernel_rfl
theorem fn42 : fnB Try.prog 42 = true := by kernel_rfl
theorem fn45 : fnB Try.prog 45 = true := by kernel_rfl
theorem fn46 : fnB Try.prog 46 = true := by kernel_rfl
theorem fn47 : fnB Try.prog 47 = true := by kernel_rfl
theorem fn59 : fnB Try.prog 59 = true := by kernel_rfl
theorem fn60 : fnB Try.prog 60 = true := by kernel_rfl
theorem fn61 : fnB Try.prog 61 = true := by kernel_rfl
theorem mp52 : mapB Try.prog 52 9 4 = true := by kernel_rfl
theorem mp55 : mapB Try.prog 55 9 51 = true := by kernel_rfl
theorem pl35 : placesP Try.prog 35 = some ([(0, 1), (1, 1)], .agg #[.int .i64 0, .int .i64 0]) := by kernel_rfl
theorem pl37 : placesP Try.prog 37 = some ([(0, 1), (1, 1), (2, 2)], .agg #[.string ByteArray.empty, .string ByteArray.empty, .int .i64 0, .int .i64 0]) := by kernel_rfl
theorem pl51 : placesP Try.prog 51 = some ([(0, 1), (1, 1), (2, 1), (3, 1)], .agg #[.string ByteArray.empty, .slice none 0 0, .string ByteArray.empty, .bool false]) := by kernel_rfl
theorem sl22 : slB Try.prog 22 51 4 64 = true := by kernel_rfl
theorem sl23 : slB Try.prog 23 37 4 48 = true := by kernel_rfl
theorem sl44 : slB Try.prog 44 9 1 16 = true := by kernel_rfl
theorem sl48 : slB Try.prog 48 3 1 8 = true := by kernel_rfl
theorem ty22 : tyB Try.prog 22 false 1 = true := by kernel_rfl
theorem ty23 : tyB Try.prog 23 false 1 = true := by kernel_rfl
theorem ty25 : tyB Try.prog 25 true 2 = true := by kernel_rfl
theorem ty3 : tyB Try.prog 3 false 1 = true := by kernel_rfl
theorem ty35 : tyB Try.prog 35 true 2 = true := by kernel_rfl
theorem ty37 : tyB Try.prog 37 true 4 = true := by kernel_rfl
theorem ty4 : tyB Try.prog 4 false 1 = true := by kernel_rfl
theorem ty48 : tyB Try.prog 48 false 1 = true := by kernel_rfl
theorem ty51 : tyB Try.prog 51 true 4 = true := by kernel_rfl
theorem ty9 : tyB Try.prog 9 false 1 = true := by kernel_rfl
theorem un21 : Try.prog.underlying 21 = some (.int .i32) := by kernel_rfl
theorem un3 : Try.prog.underlying 3 = some (.int .i64) := by kernel_rfl
theorem un4 : Try.prog.underlying 4 = some (.bool) := by kernel_rfl
theorem un9 : Try.prog.underlying 9 = some (.string) := by kernel_rfl
theorem us23 : Try.prog.underlying 23 = some (.slice 37) := by kernel_rfl
theorem z3 : (Try.prog.info? 3).map (·.zero) = some (some (.int .i64 0)) := by kernel_rfl
theorem z37 : (Try.prog.info? 37).map (·.zero) = some (some (.agg #[.string ByteArray.empty, .string ByteArray.empty, .int .i64 0, .int .i64 0])) := by kernel_rfl
theorem z4 : (Try.prog.info? 4).map (·.zero) = some (some (.bool false)) := by kernel_rfl
theorem z51 : (Try.prog.info? 51).map (·.zero) = some (some (.agg #[.string ByteArray.empty, .slice none 0 0, .string ByteArray.empty, .bool false])) := by kernel_rfl
theorem z9 : (Try.prog.info? 9).map (·.zero) = some (some (.string ByteArray.empty)) := by kernel_rfl
end Go.Proofs.Ytggfgdohbeoabaa.W
