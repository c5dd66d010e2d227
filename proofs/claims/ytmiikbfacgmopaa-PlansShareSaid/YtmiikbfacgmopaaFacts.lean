/- Written by a program of ours (wip/eng/gen.py): closed facts on the types; the cells of the structures. -/
import Derived.Test.YtmiikbfacgmopaaModel
import Derived.Test.YtmiikbfacgmopaaProg
import Derived.KernelRfl
namespace Go.Proofs.Ytmiikbfacgmopaa.W
open Go Go.Proofs Go.Proofs.Ytmiikbfacgmopaa.E Go.Proofs.Ytmiikbfacgmopaa.M
set_option linter.unusedVariables false
def cSDemand (x : SDemand) (j : Nat) : Cell := match j with
  | 0 => .int .i64 x.Feeder
  | 1 => .int .i64 x.Max
  | 2 => .int .i64 x.Energy
  | 3 => .int .i64 x.Arrive
  | 4 => .int .i64 x.Depart
  | _ => .any
def vSDemand (l : List SDemand) : Cell := .vec l.length 5 (gL cSDemand dSDemand l)
def aSDemand (T : Nat) (l : List SDemand) : Ob := .arr T 5 l.length (gL cSDemand dSDemand l)
def bSDemand (x : SDemand) : List Cell := [.int .i64 x.Feeder, .int .i64 x.Max, .int .i64 x.Energy, .int .i64 x.Arrive, .int .i64 x.Depart]
def cSProblem (x : SProblem) (j : Nat) : Cell := match j with
  | 0 => vI x.Parents
  | 1 => vR x.Caps
  | 2 => .int .i64 x.From
  | 3 => .int .i64 x.Length
  | 4 => vSDemand x.Demands
  | _ => .any
def vSProblem (l : List SProblem) : Cell := .vec l.length 5 (gL cSProblem dSProblem l)
def aSProblem (T : Nat) (l : List SProblem) : Ob := .arr T 5 l.length (gL cSProblem dSProblem l)
def bSProblem (x : SProblem) : List Cell := [vI x.Parents, vR x.Caps, .int .i64 x.From, .int .i64 x.Length, vSDemand x.Demands]
def cSArc (x : SArc) (j : Nat) : Cell := match j with
  | 0 => .int .i64 x.From
  | 1 => .int .i64 x.To
  | 2 => .int .i64 x.Cap
  | _ => .any
def vSArc (l : List SArc) : Cell := .vec l.length 3 (gL cSArc dSArc l)
def aSArc (T : Nat) (l : List SArc) : Ob := .arr T 3 l.length (gL cSArc dSArc l)
def bSArc (x : SArc) : List Cell := [.int .i64 x.From, .int .i64 x.To, .int .i64 x.Cap]
def cSNet (x : SNet) (j : Nat) : Cell := match j with
  | 0 => .int .i64 x.Nodes
  | 1 => vSArc x.Arcs
  | _ => .any
def vSNet (l : List SNet) : Cell := .vec l.length 2 (gL cSNet dSNet l)
def aSNet (T : Nat) (l : List SNet) : Ob := .arr T 2 l.length (gL cSNet dSNet l)
def bSNet (x : SNet) : List Cell := [.int .i64 x.Nodes, vSArc x.Arcs]
def cSEdge (x : SEdge) (j : Nat) : Cell := match j with
  | 0 => .int .i64 x.to
  | 1 => .int .i64 x.room
  | _ => .any
def vSEdge (l : List SEdge) : Cell := .vec l.length 2 (gL cSEdge dSEdge l)
def aSEdge (T : Nat) (l : List SEdge) : Ob := .arr T 2 l.length (gL cSEdge dSEdge l)
def bSEdge (x : SEdge) : List Cell := [.int .i64 x.to, .int .i64 x.room]
theorem oneSDemand : ∀ (a : SDemand) (j : Nat), j < 5 → (cSDemand a j).one = true := by
  intro a j h
  match j, h with
  | 0, _ => rfl
  | 1, _ => rfl
  | 2, _ => rfl
  | 3, _ => rfl
  | 4, _ => rfl
theorem oneSArc : ∀ (a : SArc) (j : Nat), j < 3 → (cSArc a j).one = true := by
  intro a j h
  match j, h with
  | 0, _ => rfl
  | 1, _ => rfl
  | 2, _ => rfl
theorem oneSEdge : ∀ (a : SEdge) (j : Nat), j < 2 → (cSEdge a j).one = true := by
  intro a j h
  match j, h with
  | 0, _ => rfl
  | 1, _ => rfl
theorem nrSArc : ∀ (a : SArc) (j : Nat), (cSArc a j).nr = true := by
  intro a j
  unfold cSArc
  split <;> rfl
theorem mixed : Try.prog.follows .mixedOrders = true := by kernel_rfl
theorem fb45 : funcB Try.prog 45 = true := by kernel_rfl
theorem fd26_0 : fdB Try.prog 26 0 0 = true := by kernel_rfl
theorem fd26_1 : fdB Try.prog 26 1 1 = true := by kernel_rfl
theorem fd26_2 : fdB Try.prog 26 2 2 = true := by kernel_rfl
theorem fd26_3 : fdB Try.prog 26 3 3 = true := by kernel_rfl
theorem fd26_4 : fdB Try.prog 26 4 4 = true := by kernel_rfl
theorem fd28_0 : fdB Try.prog 28 0 0 = true := by kernel_rfl
theorem fd28_1 : fdB Try.prog 28 1 1 = true := by kernel_rfl
theorem fd28_2 : fdB Try.prog 28 2 2 = true := by kernel_rfl
theorem fd28_3 : fdB Try.prog 28 3 3 = true := by kernel_rfl
theorem fd28_4 : fdB Try.prog 28 4 4 = true := by kernel_rfl
theorem fd40_0 : fdB Try.prog 40 0 0 = true := by kernel_rfl
theorem fd40_1 : fdB Try.prog 40 1 1 = true := by kernel_rfl
theorem fd54_0 : fdB Try.prog 54 0 0 = true := by kernel_rfl
theorem fd54_1 : fdB Try.prog 54 1 1 = true := by kernel_rfl
theorem fd54_2 : fdB Try.prog 54 2 2 = true := by kernel_rfl
theorem fd57_0 : fdB Try.prog 57 0 0 = true := by kernel_rfl
theorem fd57_1 : fdB Try.prog 57 1 1 = true := by kernel_rfl
theorem fd57_2 : fdB Try.prog 57 2 2 = true := by kernel_rfl
theorem fd57_3 : fdB Try.prog 57 3 3 = true := by kernel_rfl
theorem fd57_4 : fdB Try.prog 57 4 4 = true := by kernel_rfl
theorem fd69_0 : fdB Try.prog 69 0 0 = true := by kernel_rfl
theorem fd69_1 : fdB Try.prog 69 1 1 = true := by kernel_rfl
theorem fd72_0 : fdB Try.prog 72 0 0 = true := by kernel_rfl
theorem fd72_1 : fdB Try.prog 72 1 1 = true := by kernel_rfl
theorem fd72_2 : fdB Try.prog 72 2 2 = true := by kernel_rfl
theorem fd72_3 : fdB Try.prog 72 3 3 = true := by kernel_rfl
theorem fn10 : fnB Try.prog 10 = true := by kernel_rfl
theorem fn11 : fnB Try.prog 11 = true := by kernel_rfl
theorem fn12 : fnB Try.prog 12 = true := by kernel_rfl
theorem fn13 : fnB Try.prog 13 = true := by kernel_rfl
theorem fn14 : fnB Try.prog 14 = true := by kernel_rfl
theorem fn15 : fnB Try.prog 15 = true := by kernel_rfl
theorem fn16 : fnB Try.prog 16 = true := by kernel_rfl
theorem fn17 : fnB Try.prog 17 = true := by kernel_rfl
theorem fn18 : fnB Try.prog 18 = true := by kernel_rfl
theorem fn19 : fnB Try.prog 19 = true := by kernel_rfl
theorem fn20 : fnB Try.prog 20 = true := by kernel_rfl
theorem fn21 : fnB Try.prog 21 = true := by kernel_rfl
theorem fn22 : fnB Try.prog 22 = true := by kernel_rfl
theorem fn23 : fnB Try.prog 23 = true := by kernel_rfl
theorem fn24 : fnB Try.prog 24 = true := by kernel_rfl
theorem fn25 : fnB Try.prog 25 = true := by kernel_rfl
theorem fn26 : fnB Try.prog 26 = true := by kernel_rfl
theorem fn27 : fnB Try.prog 27 = true := by kernel_rfl
theorem fn28 : fnB Try.prog 28 = true := by kernel_rfl
theorem fn29 : fnB Try.prog 29 = true := by kernel_rfl
theorem fn30 : fnB Try.prog 30 = true := by kernel_rfl
theorem fn31 : fnB Try.prog 31 = true := by kernel_rfl
theorem fn32 : fnB Try.prog 32 = true := by kernel_rfl
theorem fn4 : fnB Try.prog 4 = true := by kernel_rfl
theorem fn5 : fnB Try.prog 5 = true := by kernel_rfl
theorem fn6 : fnB Try.prog 6 = true := by kernel_rfl
theorem fn7 : fnB Try.prog 7 = true := by kernel_rfl
theorem fn8 : fnB Try.prog 8 = true := by kernel_rfl
theorem fn9 : fnB Try.prog 9 = true := by kernel_rfl
theorem if20 : ifaceB Try.prog 20 = true := by kernel_rfl
theorem pl26 : placesP Try.prog 26 = some ([(0, 1), (1, 1), (2, 1), (3, 1), (4, 1)], .agg #[.slice none 0 0, .slice none 0 0, .int .i64 0, .int .i64 0, .slice none 0 0]) := by kernel_rfl
theorem pl28 : placesP Try.prog 28 = some ([(0, 1), (1, 1), (2, 1), (3, 1), (4, 1)], .agg #[.int .i64 0, .int .i64 0, .int .i64 0, .int .i64 0, .int .i64 0]) := by kernel_rfl
theorem pl40 : placesP Try.prog 40 = some ([(0, 1), (1, 1)], .agg #[.int .i64 0, .slice none 0 0]) := by kernel_rfl
theorem pl54 : placesP Try.prog 54 = some ([(0, 1), (1, 1), (2, 1)], .agg #[.int .i64 0, .int .i64 0, .int .i64 0]) := by kernel_rfl
theorem pl57 : placesP Try.prog 57 = some ([(0, 1), (1, 1), (2, 1), (3, 1), (4, 1)], .agg #[.slice none 0 0, .nilFunc, .slice none 0 0, .slice none 0 0, .slice none 0 0]) := by kernel_rfl
theorem pl69 : placesP Try.prog 69 = some ([(0, 1), (1, 1)], .agg #[.int .i64 0, .int .i64 0]) := by kernel_rfl
theorem pl72 : placesP Try.prog 72 = some ([(0, 1), (1, 1), (2, 1), (3, 1)], .agg #[.slice none 0 0, .slice none 0 0, .slice none 0 0, .slice none 0 0]) := by kernel_rfl
theorem sl22 : slB Try.prog 22 3 1 8 = true := by kernel_rfl
theorem sl23 : slB Try.prog 23 22 1 24 = true := by kernel_rfl
theorem sl24 : slB Try.prog 24 28 5 40 = true := by kernel_rfl
theorem sl38 : slB Try.prog 38 54 3 24 = true := by kernel_rfl
theorem sl55 : slB Try.prog 55 4 1 1 = true := by kernel_rfl
theorem sl70 : slB Try.prog 70 69 2 16 = true := by kernel_rfl
theorem ty22 : tyB Try.prog 22 false 1 = true := by kernel_rfl
theorem ty23 : tyB Try.prog 23 false 1 = true := by kernel_rfl
theorem ty24 : tyB Try.prog 24 false 1 = true := by kernel_rfl
theorem ty26 : tyB Try.prog 26 true 5 = true := by kernel_rfl
theorem ty28 : tyB Try.prog 28 true 5 = true := by kernel_rfl
theorem ty29 : tyB Try.prog 29 false 1 = true := by kernel_rfl
theorem ty3 : tyB Try.prog 3 false 1 = true := by kernel_rfl
theorem ty38 : tyB Try.prog 38 false 1 = true := by kernel_rfl
theorem ty4 : tyB Try.prog 4 false 1 = true := by kernel_rfl
theorem ty40 : tyB Try.prog 40 true 2 = true := by kernel_rfl
theorem ty45 : tyB Try.prog 45 false 1 = true := by kernel_rfl
theorem ty54 : tyB Try.prog 54 true 3 = true := by kernel_rfl
theorem ty55 : tyB Try.prog 55 false 1 = true := by kernel_rfl
theorem ty57 : tyB Try.prog 57 true 5 = true := by kernel_rfl
theorem ty70 : tyB Try.prog 70 false 1 = true := by kernel_rfl
theorem us22 : Try.prog.underlying 22 = some (.slice 3) := by kernel_rfl
theorem z22 : (Try.prog.info? 22).map (·.zero) = some (some (.slice none 0 0)) := by kernel_rfl
theorem z26 : (Try.prog.info? 26).map (·.zero) = some (some (.agg #[.slice none 0 0, .slice none 0 0, .int .i64 0, .int .i64 0, .slice none 0 0])) := by kernel_rfl
theorem z28 : (Try.prog.info? 28).map (·.zero) = some (some (.agg #[.int .i64 0, .int .i64 0, .int .i64 0, .int .i64 0, .int .i64 0])) := by kernel_rfl
theorem z29 : (Try.prog.info? 29).map (·.zero) = some (some (.int .i64 0)) := by kernel_rfl
theorem z3 : (Try.prog.info? 3).map (·.zero) = some (some (.int .i64 0)) := by kernel_rfl
theorem z4 : (Try.prog.info? 4).map (·.zero) = some (some (.bool false)) := by kernel_rfl
theorem z40 : (Try.prog.info? 40).map (·.zero) = some (some (.agg #[.int .i64 0, .slice none 0 0])) := by kernel_rfl
theorem z54 : (Try.prog.info? 54).map (·.zero) = some (some (.agg #[.int .i64 0, .int .i64 0, .int .i64 0])) := by kernel_rfl
theorem z57 : (Try.prog.info? 57).map (·.zero) = some (some (.agg #[.slice none 0 0, .nilFunc, .slice none 0 0, .slice none 0 0, .slice none 0 0])) := by kernel_rfl
theorem z69 : (Try.prog.info? 69).map (·.zero) = some (some (.agg #[.int .i64 0, .int .i64 0])) := by kernel_rfl
end Go.Proofs.Ytmiikbfacgmopaa.W
