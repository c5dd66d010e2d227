/- Written by a program of ours (wip/eng/law.py): what a reading of the arguments says. -/
import Derived.Test.YtcccjpkfifefaaaFacts
import Derived.Test.YtcccjpkfifefaaaEngN
import Derived.ChangeShapes
namespace Go.Proofs.Ytcccjpkfifefaaa.W
open Go Go.RowKit Go.Proofs Go.Proofs.Ytcccjpkfifefaaa.E Go.Proofs.Ytcccjpkfifefaaa.M
set_option linter.unusedVariables false
section
variable {H : Type} {enc : TypeId × Value → H} {w : World}
def okSSpan (x : SSpan) : Prop := (Lit.int .i64 x.From).wf = true ∧ (Lit.int .i64 x.To).wf = true
theorem rdSSpan : Rd enc Try.prog w 23 2 cSSpan okSSpan := by
  intro fuel cs d h
  obtain ⟨xs, n, rfl, rfl, hlen, hxs, hf⟩ := DataW.trod_struct Try.underlying23 h
  obtain ⟨a0, w0, c0⟩ := rd_field (rd_int Try.underlying3) (show Try.prog.cellsOf 3 = 1 by kernel_rfl) (hf 0 _ rfl) (by rw [List.getElem?_eq_getElem (by rw [hxs]; decide)]; rfl)
  obtain ⟨a1, w1, c1⟩ := rd_field (rd_int Try.underlying3) (show Try.prog.cellsOf 3 = 1 by kernel_rfl) (hf 1 _ rfl) (by rw [List.getElem?_eq_getElem (by rw [hxs]; decide)]; rfl)
  refine ⟨SSpan.mk a0 a1, ⟨w0, w1⟩, hlen.trans (show Try.prog.cellsOf 23 = 2 by kernel_rfl), fun j hj => ?_⟩
  match j, hj with
  | 0, _ => exact c0 0 (by decide)
  | 1, _ => exact c1 0 (by decide)
def okSCurtail (x : SCurtail) : Prop := x.Name.size ≤ maxLen ∧ (Lit.int .i64 x.Version).wf = true ∧ (Lit.int .i64 x.Feeder).wf = true ∧ (Lit.int .i64 x.Span_From).wf = true ∧ (Lit.int .i64 x.Span_To).wf = true ∧ (Lit.int .i64 x.Total).wf = true ∧ True
theorem rdSCurtail : Rd enc Try.prog w 25 7 cSCurtail okSCurtail := by
  intro fuel cs d h
  obtain ⟨xs, n, rfl, rfl, hlen, hxs, hf⟩ := DataW.trod_struct Try.underlying25 h
  obtain ⟨a0, w0, c0⟩ := rd_field (rd_str Try.underlying9) (show Try.prog.cellsOf 9 = 1 by kernel_rfl) (hf 0 _ rfl) (by rw [List.getElem?_eq_getElem (by rw [hxs]; decide)]; rfl)
  obtain ⟨a1, w1, c1⟩ := rd_field (rd_int Try.underlying3) (show Try.prog.cellsOf 3 = 1 by kernel_rfl) (hf 1 _ rfl) (by rw [List.getElem?_eq_getElem (by rw [hxs]; decide)]; rfl)
  obtain ⟨a2, w2, c2⟩ := rd_field (rd_int Try.underlying3) (show Try.prog.cellsOf 3 = 1 by kernel_rfl) (hf 2 _ rfl) (by rw [List.getElem?_eq_getElem (by rw [hxs]; decide)]; rfl)
  obtain ⟨a3, w3, c3⟩ := rd_field rdSSpan (show Try.prog.cellsOf 23 = 2 by kernel_rfl) (hf 3 _ rfl) (by rw [List.getElem?_eq_getElem (by rw [hxs]; decide)]; rfl)
  obtain ⟨a4, w4, c4⟩ := rd_field (rd_int Try.underlying3) (show Try.prog.cellsOf 3 = 1 by kernel_rfl) (hf 4 _ rfl) (by rw [List.getElem?_eq_getElem (by rw [hxs]; decide)]; rfl)
  obtain ⟨a5, w5, c5⟩ := rd_field (rd_bool Try.underlying4) (show Try.prog.cellsOf 4 = 1 by kernel_rfl) (hf 5 _ rfl) (by rw [List.getElem?_eq_getElem (by rw [hxs]; decide)]; rfl)
  refine ⟨SCurtail.mk a0 a1 a2 a3.From a3.To a4 a5, ⟨w0, w1, w2, w3.1, w3.2, w4, w5⟩, hlen.trans (show Try.prog.cellsOf 25 = 7 by kernel_rfl), fun j hj => ?_⟩
  match j, hj with
  | 0, _ => exact c0 0 (by decide)
  | 1, _ => exact c1 0 (by decide)
  | 2, _ => exact c2 0 (by decide)
  | 3, _ => exact c3 0 (by decide)
  | 4, _ => exact c3 1 (by decide)
  | 5, _ => exact c4 0 (by decide)
  | 6, _ => exact c5 0 (by decide)
end
end Go.Proofs.Ytcccjpkfifefaaa.W
