/- Written by a program of ours (wip/eng/law.py): what a reading of the arguments says. -/
import Derived.Test.YtfefnffdocmlmaaFacts
import Derived.Test.YtfefnffdocmlmaaEngN
import Derived.ChangeShapes
namespace Go.Proofs.Ytfefnffdocmlmaa.W
open Go Go.RowKit Go.Proofs Go.Proofs.Ytfefnffdocmlmaa.E Go.Proofs.Ytfefnffdocmlmaa.M
set_option linter.unusedVariables false
section
variable {H : Type} {enc : TypeId × Value → H} {w : World}
def okSDemand (x : SDemand) : Prop := (Lit.int .i64 x.Feeder).wf = true ∧ (Lit.int .i64 x.Max).wf = true ∧ (Lit.int .i64 x.Energy).wf = true ∧ (Lit.int .i64 x.Arrive).wf = true ∧ (Lit.int .i64 x.Depart).wf = true
theorem rdSDemand : Rd enc Try.prog w 39 5 cSDemand okSDemand := by
  intro fuel cs d h
  obtain ⟨xs, n, rfl, rfl, hlen, hxs, hf⟩ := DataW.trod_struct Try.underlying39 h
  obtain ⟨a0, w0, c0⟩ := rd_field (rd_int Try.underlying3) (show Try.prog.cellsOf 3 = 1 by kernel_rfl) (hf 0 _ rfl) (by rw [List.getElem?_eq_getElem (by rw [hxs]; decide)]; rfl)
  obtain ⟨a1, w1, c1⟩ := rd_field (rd_int Try.underlying3) (show Try.prog.cellsOf 3 = 1 by kernel_rfl) (hf 1 _ rfl) (by rw [List.getElem?_eq_getElem (by rw [hxs]; decide)]; rfl)
  obtain ⟨a2, w2, c2⟩ := rd_field (rd_int Try.underlying3) (show Try.prog.cellsOf 3 = 1 by kernel_rfl) (hf 2 _ rfl) (by rw [List.getElem?_eq_getElem (by rw [hxs]; decide)]; rfl)
  obtain ⟨a3, w3, c3⟩ := rd_field (rd_int Try.underlying3) (show Try.prog.cellsOf 3 = 1 by kernel_rfl) (hf 3 _ rfl) (by rw [List.getElem?_eq_getElem (by rw [hxs]; decide)]; rfl)
  obtain ⟨a4, w4, c4⟩ := rd_field (rd_int Try.underlying3) (show Try.prog.cellsOf 3 = 1 by kernel_rfl) (hf 4 _ rfl) (by rw [List.getElem?_eq_getElem (by rw [hxs]; decide)]; rfl)
  refine ⟨SDemand.mk a0 a1 a2 a3 a4, ⟨w0, w1, w2, w3, w4⟩, hlen.trans (show Try.prog.cellsOf 39 = 5 by kernel_rfl), fun j hj => ?_⟩
  match j, hj with
  | 0, _ => exact c0 0 (by decide)
  | 1, _ => exact c1 0 (by decide)
  | 2, _ => exact c2 0 (by decide)
  | 3, _ => exact c3 0 (by decide)
  | 4, _ => exact c4 0 (by decide)
def okSProblem (x : SProblem) : Prop := okVec (fun x : Int => (Lit.int .i64 x).wf = true) x.Parents ∧ okVec (fun x : List Int => okVec (fun x : Int => (Lit.int .i64 x).wf = true) x) x.Caps ∧ (Lit.int .i64 x.From).wf = true ∧ (Lit.int .i64 x.Length).wf = true ∧ okVec okSDemand x.Demands
theorem rdSProblem : Rd enc Try.prog w 26 5 cSProblem okSProblem := by
  intro fuel cs d h
  obtain ⟨xs, n, rfl, rfl, hlen, hxs, hf⟩ := DataW.trod_struct Try.underlying26 h
  obtain ⟨a0, w0, c0⟩ := rd_field (rd_slice 0 Try.underlying22 (show Try.prog.cellsOf 3 = 1 by kernel_rfl) (rd_int Try.underlying3)) (show Try.prog.cellsOf 22 = 1 by kernel_rfl) (hf 0 _ rfl) (by rw [List.getElem?_eq_getElem (by rw [hxs]; decide)]; rfl)
  obtain ⟨a1, w1, c1⟩ := rd_field (rd_slice ([]) Try.underlying23 (show Try.prog.cellsOf 22 = 1 by kernel_rfl) (rd_slice 0 Try.underlying22 (show Try.prog.cellsOf 3 = 1 by kernel_rfl) (rd_int Try.underlying3))) (show Try.prog.cellsOf 23 = 1 by kernel_rfl) (hf 1 _ rfl) (by rw [List.getElem?_eq_getElem (by rw [hxs]; decide)]; rfl)
  obtain ⟨a2, w2, c2⟩ := rd_field (rd_int Try.underlying3) (show Try.prog.cellsOf 3 = 1 by kernel_rfl) (hf 2 _ rfl) (by rw [List.getElem?_eq_getElem (by rw [hxs]; decide)]; rfl)
  obtain ⟨a3, w3, c3⟩ := rd_field (rd_int Try.underlying3) (show Try.prog.cellsOf 3 = 1 by kernel_rfl) (hf 3 _ rfl) (by rw [List.getElem?_eq_getElem (by rw [hxs]; decide)]; rfl)
  obtain ⟨a4, w4, c4⟩ := rd_field (rd_slice dSDemand Try.underlying24 (show Try.prog.cellsOf 39 = 5 by kernel_rfl) rdSDemand) (show Try.prog.cellsOf 24 = 1 by kernel_rfl) (hf 4 _ rfl) (by rw [List.getElem?_eq_getElem (by rw [hxs]; decide)]; rfl)
  refine ⟨SProblem.mk a0 a1 a2 a3 a4, ⟨w0, w1, w2, w3, w4⟩, hlen.trans (show Try.prog.cellsOf 26 = 5 by kernel_rfl), fun j hj => ?_⟩
  match j, hj with
  | 0, _ => exact c0 0 (by decide)
  | 1, _ => exact c1 0 (by decide)
  | 2, _ => exact c2 0 (by decide)
  | 3, _ => exact c3 0 (by decide)
  | 4, _ => exact c4 0 (by decide)
end
end Go.Proofs.Ytfefnffdocmlmaa.W
