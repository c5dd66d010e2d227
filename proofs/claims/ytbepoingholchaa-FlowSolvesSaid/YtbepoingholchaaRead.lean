/- Written by a program of ours (wip/eng/law.py): what a reading of the arguments says. -/
import Derived.Test.YtbepoingholchaaFacts
import Derived.Test.YtbepoingholchaaEngN
import Derived.ChangeShapes
namespace Go.Proofs.Ytbepoingholchaa.W
open Go Go.RowKit Go.Proofs Go.Proofs.Ytbepoingholchaa.E Go.Proofs.Ytbepoingholchaa.M
set_option linter.unusedVariables false
section
variable {H : Type} {enc : TypeId × Value → H} {w : World}
def okSArc (x : SArc) : Prop := (Lit.int .i64 x.From).wf = true ∧ (Lit.int .i64 x.To).wf = true ∧ (Lit.int .i64 x.Cap).wf = true
theorem rdSArc : Rd enc Try.prog w 50 3 cSArc okSArc := by
  intro fuel cs d h
  obtain ⟨xs, n, rfl, rfl, hlen, hxs, hf⟩ := DataW.trod_struct Try.underlying50 h
  obtain ⟨a0, w0, c0⟩ := rd_field (rd_int Try.underlying3) (show Try.prog.cellsOf 3 = 1 by kernel_rfl) (hf 0 _ rfl) (by rw [List.getElem?_eq_getElem (by rw [hxs]; decide)]; rfl)
  obtain ⟨a1, w1, c1⟩ := rd_field (rd_int Try.underlying3) (show Try.prog.cellsOf 3 = 1 by kernel_rfl) (hf 1 _ rfl) (by rw [List.getElem?_eq_getElem (by rw [hxs]; decide)]; rfl)
  obtain ⟨a2, w2, c2⟩ := rd_field (rd_int Try.underlying3) (show Try.prog.cellsOf 3 = 1 by kernel_rfl) (hf 2 _ rfl) (by rw [List.getElem?_eq_getElem (by rw [hxs]; decide)]; rfl)
  refine ⟨SArc.mk a0 a1 a2, ⟨w0, w1, w2⟩, hlen.trans (show Try.prog.cellsOf 50 = 3 by kernel_rfl), fun j hj => ?_⟩
  match j, hj with
  | 0, _ => exact c0 0 (by decide)
  | 1, _ => exact c1 0 (by decide)
  | 2, _ => exact c2 0 (by decide)
def okSNet (x : SNet) : Prop := (Lit.int .i64 x.Nodes).wf = true ∧ okVec okSArc x.Arcs
theorem rdSNet : Rd enc Try.prog w 24 2 cSNet okSNet := by
  intro fuel cs d h
  obtain ⟨xs, n, rfl, rfl, hlen, hxs, hf⟩ := DataW.trod_struct Try.underlying24 h
  obtain ⟨a0, w0, c0⟩ := rd_field (rd_int Try.underlying3) (show Try.prog.cellsOf 3 = 1 by kernel_rfl) (hf 0 _ rfl) (by rw [List.getElem?_eq_getElem (by rw [hxs]; decide)]; rfl)
  obtain ⟨a1, w1, c1⟩ := rd_field (rd_slice dSArc Try.underlying22 (show Try.prog.cellsOf 50 = 3 by kernel_rfl) rdSArc) (show Try.prog.cellsOf 22 = 1 by kernel_rfl) (hf 1 _ rfl) (by rw [List.getElem?_eq_getElem (by rw [hxs]; decide)]; rfl)
  refine ⟨SNet.mk a0 a1, ⟨w0, w1⟩, hlen.trans (show Try.prog.cellsOf 24 = 2 by kernel_rfl), fun j hj => ?_⟩
  match j, hj with
  | 0, _ => exact c0 0 (by decide)
  | 1, _ => exact c1 0 (by decide)
def okSClaim (x : SClaim) : Prop := (Lit.int .i64 x.N_Nodes).wf = true ∧ okVec okSArc x.N_Arcs ∧ (Lit.int .i64 x.Source).wf = true ∧ (Lit.int .i64 x.Sink).wf = true ∧ okVec (fun x : Int => (Lit.int .i64 x).wf = true) x.L
theorem rdSClaim : Rd enc Try.prog w 42 5 cSClaim okSClaim := by
  intro fuel cs d h
  obtain ⟨xs, n, rfl, rfl, hlen, hxs, hf⟩ := DataW.trod_struct Try.underlying42 h
  obtain ⟨a0, w0, c0⟩ := rd_field rdSNet (show Try.prog.cellsOf 24 = 2 by kernel_rfl) (hf 0 _ rfl) (by rw [List.getElem?_eq_getElem (by rw [hxs]; decide)]; rfl)
  obtain ⟨a1, w1, c1⟩ := rd_field (rd_int Try.underlying3) (show Try.prog.cellsOf 3 = 1 by kernel_rfl) (hf 1 _ rfl) (by rw [List.getElem?_eq_getElem (by rw [hxs]; decide)]; rfl)
  obtain ⟨a2, w2, c2⟩ := rd_field (rd_int Try.underlying3) (show Try.prog.cellsOf 3 = 1 by kernel_rfl) (hf 2 _ rfl) (by rw [List.getElem?_eq_getElem (by rw [hxs]; decide)]; rfl)
  obtain ⟨a3, w3, c3⟩ := rd_field (rd_slice 0 Try.underlying30 (show Try.prog.cellsOf 3 = 1 by kernel_rfl) (rd_int Try.underlying3)) (show Try.prog.cellsOf 30 = 1 by kernel_rfl) (hf 3 _ rfl) (by rw [List.getElem?_eq_getElem (by rw [hxs]; decide)]; rfl)
  refine ⟨SClaim.mk a0.Nodes a0.Arcs a1 a2 a3, ⟨w0.1, w0.2, w1, w2, w3⟩, hlen.trans (show Try.prog.cellsOf 42 = 5 by kernel_rfl), fun j hj => ?_⟩
  match j, hj with
  | 0, _ => exact c0 0 (by decide)
  | 1, _ => exact c0 1 (by decide)
  | 2, _ => exact c1 0 (by decide)
  | 3, _ => exact c2 0 (by decide)
  | 4, _ => exact c3 0 (by decide)
end
end Go.Proofs.Ytbepoingholchaa.W
