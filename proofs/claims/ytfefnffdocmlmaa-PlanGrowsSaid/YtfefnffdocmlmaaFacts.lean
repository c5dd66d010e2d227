/- Written by a program of ours (wip/eng/gen.py): closed facts on the types; the cells of the structures. -/
import Derived.Test.YtfefnffdocmlmaaModel
import Derived.Test.YtfefnffdocmlmaaProg
import Derived.KernelRfl
namespace Go.Proofs.Ytfefnffdocmlmaa.W
open Go Go.Proofs Go.Proofs.Ytfefnffdocmlmaa.E Go.Proofs.Ytfefnffdocmlmaa.M
set_option linter.unusedVariables false
def cSDemand (x : SDemand) (j : Nat) : Cell := match j with
  | 0 => .int .i64 x.Feeder
  | 1 => .int .i64 x.Max
  | 2 => .int .i64 x.Energy
  | 3 => .int .i64 x.Arrive
  | 4 => .int .i64 x.Depart
  | _ => .any
def vSDemand (l : List SDemand) : Cell := .vec l.length 5 (gL cSDemand dSDemand l)
def aSDemand (T : Nat) (l : List SDemand) : Ob := .arr T 5 l.length (gL cSDemand dSDemand l)
def bSDemand (x : SDemand) : List Cell := [.int .i64 x.Feeder, .int .i64 x.Max, .int .i64 x.Energy, .int .i64 x.Arrive, .int .i64 x.Depart]
def cSProblem (x : SProblem) (j : Nat) : Cell := match j with
  | 0 => vI x.Parents
  | 1 => vR x.Caps
  | 2 => .int .i64 x.From
  | 3 => .int .i64 x.Length
  | 4 => vSDemand x.Demands
  | _ => .any
def vSProblem (l : List SProblem) : Cell := .vec l.length 5 (gL cSProblem dSProblem l)
def aSProblem (T : Nat) (l : List SProblem) : Ob := .arr T 5 l.length (gL cSProblem dSProblem l)
def bSProblem (x : SProblem) : List Cell := [vI x.Parents, vR x.Caps, .int .i64 x.From, .int .i64 x.Length, vSDemand x.Demands]
def cSArc (x : SArc) (j : Nat) : Cell := match j with
  | 0 => .int .i64 x.From
  | 1 => .int .i64 x.To
  | 2 => .int .i64 x.Cap
  | _ => .any
def vSArc (l : List SArc) : Cell := .vec l.length 3 (gL cSArc dSArc l)
def aSArc (T : Nat) (l : List SArc) : Ob := .arr T 3 l.length (gL cSArc dSArc l)
def bSArc (x : SArc) : List Cell := [.int .i64 x.From, .int .i64 x.To, .int .i64 x.Cap]
def cSNet (x : SNet) (j : Nat) : Cell := match j with
  | 0 => .int .i64 x.Nodes
  | 1 => vSArc x.Arcs
  | _ => .any
def vSNet (l : List SNet) : Cell := .vec l.length 2 (gL cSNet dSNet l)
def aSNet (T : Nat) (l : List SNet) : Ob := .arr T 2 l.length (gL cSNet dSNet l)
def bSNet (x : SNet) : List Cell := [.int .i64 x.Nodes, vSArc x.Arcs]
def cSEdge (x : SEdge) (j : Nat) : Cell := match j with
  | 0 => .int .i64 x.to
  | 1 => .int .i64 x.room
  | _ => .any
def vSEdge (l : List SEdge) : Cell := .vec l.length 2 (gL cSEdge dSEdge l)
def aSEdge (T : Nat) (l : List SEdge) : Ob := .arr T 2 l.length (gL cSEdge dSEdge l)
def bSEdge (x : SEdge) : List Cell := [.int .i64 x.to, .int .i64 x.room]
theorem oneSArc : ∀ (a : SArc) (j : Nat), j < 3 → (cSArc a j).one = true := by
  intro a j h
  match j, h with
  | 0, _ => rfl
  | 1, _ => rfl
  | 2, _ => rfl
theorem oneSEdge : ∀ (a : SEdge) (j : Nat), j < 2 → (cSEdge a j).one = true := by
  intro a j h
  match j, h with
  | 0, _ => rfl
  | 1, _ => rfl
theorem oneSDemand : ∀ (a : SDemand) (j : Nat), j < 5 → (cSDemand a j).one = true := by
  intro a j h
  match j, h with
  | 0, _ => rfl
  | 1, _ => rfl
  | 2, _ => rfl
  | 3, _ => rfl
  | 4, _ => rfl
theorem nrSArc : ∀ (a : SArc) (j : Nat), (cSArc a j).nr = true := by
  intro a j
  unfold cSArc
  split <;> rfl
theorem mixed : Try.prog.follows .mixedOrders = true := by kernel_rfl
theorem fb52 : funcB Try.prog 52 = true := by kernel_rfl
theorem fd26_0 : fdB Try.prog 26 0 0 = true := by kernel_rfl
theorem fd26_1 : fdB Try.prog 26 1 1 = true := by kernel_rfl
theorem fd26_2 : fdB Try.prog 26 2 2 = true := by kernel_rfl
theorem fd26_3 : fdB Try.prog 26 3 3 = true := by kernel_rfl
theorem fd26_4 : fdB Try.prog 26 4 4 = true := by kernel_rfl
theorem fd39_0 : fdB Try.prog 39 0 0 = true := by kernel_rfl
theorem fd39_1 : fdB Try.prog 39 1 1 = true := by kernel_rfl
theorem fd39_2 : fdB Try.prog 39 2 2 = true := by kernel_rfl
theorem fd39_3 : fdB Try.prog 39 3 3 = true := by kernel_rfl
theorem fd39_4 : fdB Try.prog 39 4 4 = true := by kernel_rfl
theorem fd49_0 : fdB Try.prog 49 0 0 = true := by kernel_rfl
theorem fd49_1 : fdB Try.prog 49 1 1 = true := by kernel_rfl
theorem fd63_0 : fdB Try.prog 63 0 0 = true := by kernel_rfl
theorem fd63_1 : fdB Try.prog 63 1 1 = true := by kernel_rfl
theorem fd63_2 : fdB Try.prog 63 2 2 = true := by kernel_rfl
theorem fd68_0 : fdB Try.prog 68 0 0 = true := by kernel_rfl
theorem fd68_1 : fdB Try.prog 68 1 1 = true := by kernel_rfl
theorem fd68_2 : fdB Try.prog 68 2 2 = true := by kernel_rfl
theorem fd68_3 : fdB Try.prog 68 3 3 = true := by kernel_rfl
theorem fd68_4 : fdB Try.prog 68 4 4 = true := by kernel_rfl
theorem fd75_0 : fdB Try.prog 75 0 0 = true := by kernel_rfl
theorem fd75_1 : fdB Try.prog 75 1 1 = true := by kernel_rfl
theorem fd78_0 : fdB Try.prog 78 0 0 = true := by kernel_rfl
theorem fd78_1 : fdB Try.prog 78 1 1 = true := by kernel_rfl
theorem fd78_2 : fdB Try.prog 78 2 2 = true := by kernel_rfl
theorem fd78_3 : fdB Try.prog 78 3 3 = true := by kernel_rfl
theorem fn10 : fnB Try.prog 10 = true := by kernel_rfl
theorem fn11 : fnB Try.prog 11 = true := by kernel_rfl
theorem fn12 : fnB Try.prog 12 = true := by kernel_rfl
theorem fn13 : fnB Try.prog 13 = true := by kernel_rfl
theorem fn14 : fnB Try.prog 14 = true := by kernel_rfl
theorem fn15 : fnB Try.prog 15 = true := by kernel_rfl
theorem fn16 : fnB Try.prog 16 = true := by kernel_rfl
theorem fn20 : fnB Try.prog 20 = true := by kernel_rfl
theorem fn24 : fnB Try.prog 24 = true := by kernel_rfl
theorem fn25 : fnB Try.prog 25 = true := by kernel_rfl
theorem fn26 : fnB Try.prog 26 = true := by kernel_rfl
theorem fn27 : fnB Try.prog 27 = true := by kernel_rfl
theorem fn28 : fnB Try.prog 28 = true := by kernel_rfl
theorem fn29 : fnB Try.prog 29 = true := by kernel_rfl
theorem fn30 : fnB Try.prog 30 = true := by kernel_rfl
theorem fn31 : fnB Try.prog 31 = true := by kernel_rfl
theorem fn36 : fnB Try.prog 36 = true := by kernel_rfl
theorem fn37 : fnB Try.prog 37 = true := by kernel_rfl
theorem fn38 : fnB Try.prog 38 = true := by kernel_rfl
theorem fn40 : fnB Try.prog 40 = true := by kernel_rfl
theorem fn41 : fnB Try.prog 41 = true := by kernel_rfl
theorem fn42 : fnB Try.prog 42 = true := by kernel_rfl
theorem fn43 : fnB Try.prog 43 = true := by kernel_rfl
theorem fn44 : fnB Try.prog 44 = true := by kernel_rfl
theorem fn45 : fnB Try.prog 45 = true := by kernel_rfl
theorem fn46 : fnB Try.prog 46 = true := by kernel_rfl
theorem fn47 : fnB Try.prog 47 = true := by kernel_rfl
theorem fn48 : fnB Try.prog 48 = true := by kernel_rfl
theorem fn49 : fnB Try.prog 49 = true := by kernel_rfl
theorem fn50 : fnB Try.prog 50 = true := by kernel_rfl
theorem fn51 : fnB Try.prog 51 = true := by kernel_rfl
theorem fn52 : fnB Try.prog 52 = true := by kernel_rfl
theorem fn53 : fnB Try.prog 53 = true := by kernel_rfl
theorem fn54 : fnB Try.prog 54 = true := by kernel_rfl
theorem fn55 : fnB Try.prog 55 = true := by kernel_rfl
theorem fn56 : fnB Try.prog 56 = true := by kernel_rfl
theorem fn57 : fnB Try.prog 57 = true := by kernel_rfl
theorem fn58 : fnB Try.prog 58 = true := by kernel_rfl
theorem fn59 : fnB Try.prog 59 = true := by kernel_rfl
theorem fn60 : fnB Try.prog 60 = true := by kernel_rfl
theorem fn61 : fnB Try.prog 61 = true := by kernel_rfl
theorem fn62 : fnB Try.prog 62 = true := by kernel_rfl
theorem if20 : ifaceB Try.prog 20 = true := by kernel_rfl
theorem pl26 : placesP Try.prog 26 = some ([(0, 1), (1, 1), (2, 1), (3, 1), (4, 1)], .agg #[.slice none 0 0, .slice none 0 0, .int .i64 0, .int .i64 0, .slice none 0 0]) := by kernel_rfl
theorem pl39 : placesP Try.prog 39 = some ([(0, 1), (1, 1), (2, 1), (3, 1), (4, 1)], .agg #[.int .i64 0, .int .i64 0, .int .i64 0, .int .i64 0, .int .i64 0]) := by kernel_rfl
theorem pl49 : placesP Try.prog 49 = some ([(0, 1), (1, 1)], .agg #[.int .i64 0, .slice none 0 0]) := by kernel_rfl
theorem pl63 : placesP Try.prog 63 = some ([(0, 1), (1, 1), (2, 1)], .agg #[.int .i64 0, .int .i64 0, .int .i64 0]) := by kernel_rfl
theorem pl68 : placesP Try.prog 68 = some ([(0, 1), (1, 1), (2, 1), (3, 1), (4, 1)], .agg #[.slice none 0 0, .nilFunc, .slice none 0 0, .slice none 0 0, .slice none 0 0]) := by kernel_rfl
theorem pl75 : placesP Try.prog 75 = some ([(0, 1), (1, 1)], .agg #[.int .i64 0, .int .i64 0]) := by kernel_rfl
theorem pl78 : placesP Try.prog 78 = some ([(0, 1), (1, 1), (2, 1), (3, 1)], .agg #[.slice none 0 0, .slice none 0 0, .slice none 0 0, .slice none 0 0]) := by kernel_rfl
theorem sl22 : slB Try.prog 22 3 1 8 = true := by kernel_rfl
theorem sl23 : slB Try.prog 23 22 1 24 = true := by kernel_rfl
theorem sl24 : slB Try.prog 24 39 5 40 = true := by kernel_rfl
theorem sl47 : slB Try.prog 47 63 3 24 = true := by kernel_rfl
theorem sl53 : slB Try.prog 53 4 1 1 = true := by kernel_rfl
theorem sl76 : slB Try.prog 76 75 2 16 = true := by kernel_rfl
theorem ty22 : tyB Try.prog 22 false 1 = true := by kernel_rfl
theorem ty23 : tyB Try.prog 23 false 1 = true := by kernel_rfl
theorem ty24 : tyB Try.prog 24 false 1 = true := by kernel_rfl
theorem ty26 : tyB Try.prog 26 true 5 = true := by kernel_rfl
theorem ty28 : tyB Try.prog 28 false 1 = true := by kernel_rfl
theorem ty3 : tyB Try.prog 3 false 1 = true := by kernel_rfl
theorem ty39 : tyB Try.prog 39 true 5 = true := by kernel_rfl
theorem ty4 : tyB Try.prog 4 false 1 = true := by kernel_rfl
theorem ty47 : tyB Try.prog 47 false 1 = true := by kernel_rfl
theorem ty49 : tyB Try.prog 49 true 2 = true := by kernel_rfl
theorem ty52 : tyB Try.prog 52 false 1 = true := by kernel_rfl
theorem ty53 : tyB Try.prog 53 false 1 = true := by kernel_rfl
theorem ty63 : tyB Try.prog 63 true 3 = true := by kernel_rfl
theorem ty68 : tyB Try.prog 68 true 5 = true := by kernel_rfl
theorem ty76 : tyB Try.prog 76 false 1 = true := by kernel_rfl
theorem un3 : Try.prog.underlying 3 = some (.int .i64) := by kernel_rfl
theorem un4 : Try.prog.underlying 4 = some (.bool) := by kernel_rfl
theorem un5 : Try.prog.underlying 5 = some (.int .u8) := by kernel_rfl
theorem z22 : (Try.prog.info? 22).map (·.zero) = some (some (.slice none 0 0)) := by kernel_rfl
theorem z26 : (Try.prog.info? 26).map (·.zero) = some (some (.agg #[.slice none 0 0, .slice none 0 0, .int .i64 0, .int .i64 0, .slice none 0 0])) := by kernel_rfl
theorem z28 : (Try.prog.info? 28).map (·.zero) = some (some (.int .i64 0)) := by kernel_rfl
theorem z3 : (Try.prog.info? 3).map (·.zero) = some (some (.int .i64 0)) := by kernel_rfl
theorem z39 : (Try.prog.info? 39).map (·.zero) = some (some (.agg #[.int .i64 0, .int .i64 0, .int .i64 0, .int .i64 0, .int .i64 0])) := by kernel_rfl
theorem z4 : (Try.prog.info? 4).map (·.zero) = some (some (.bool false)) := by kernel_rfl
theorem z49 : (Try.prog.info? 49).map (·.zero) = some (some (.agg #[.int .i64 0, .slice none 0 0])) := by kernel_rfl
theorem z63 : (Try.prog.info? 63).map (·.zero) = some (some (.agg #[.int .i64 0, .int .i64 0, .int .i64 0])) := by kernel_rfl
theorem z68 : (Try.prog.info? 68).map (·.zero) = some (some (.agg #[.slice none 0 0, .nilFunc, .slice none 0 0, .slice none 0 0, .slice none 0 0])) := by kernel_rfl
theorem z75 : (Try.prog.info? 75).map (·.zero) = some (some (.agg #[.int .i64 0, .int .i64 0])) := by kernel_rfl
end Go.Proofs.Ytfefnffdocmlmaa.W
