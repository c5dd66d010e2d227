/- Written by a program of ours (wip/eng/law.py): what a reading of the arguments says. -/
import Derived.Test.YtfbkimhoncfnmaaFacts
import Derived.Test.YtfbkimhoncfnmaaEngN
import Derived.ChangeShapes
namespace Go.Proofs.Ytfbkimhoncfnmaa.W
open Go Go.RowKit Go.Proofs Go.Proofs.Ytfbkimhoncfnmaa.E Go.Proofs.Ytfbkimhoncfnmaa.M
set_option linter.unusedVariables false
section
variable {H : Type} {enc : TypeId × Value → H} {w : World}
def okSSpan (x : SSpan) : Prop := (Lit.int .i64 x.From).wf = true ∧ (Lit.int .i64 x.To).wf = true
theorem rdSSpan : Rd enc Try.prog w 26 2 cSSpan okSSpan := by
  intro fuel cs d h
  obtain ⟨xs, n, rfl, rfl, hlen, hxs, hf⟩ := DataW.trod_struct Try.underlying26 h
  obtain ⟨a0, w0, c0⟩ := rd_field (rd_int Try.underlying3) (show Try.prog.cellsOf 3 = 1 by kernel_rfl) (hf 0 _ rfl) (by rw [List.getElem?_eq_getElem (by rw [hxs]; decide)]; rfl)
  obtain ⟨a1, w1, c1⟩ := rd_field (rd_int Try.underlying3) (show Try.prog.cellsOf 3 = 1 by kernel_rfl) (hf 1 _ rfl) (by rw [List.getElem?_eq_getElem (by rw [hxs]; decide)]; rfl)
  refine ⟨SSpan.mk a0 a1, ⟨w0, w1⟩, hlen.trans (show Try.prog.cellsOf 26 = 2 by kernel_rfl), fun j hj => ?_⟩
  match j, hj with
  | 0, _ => exact c0 0 (by decide)
  | 1, _ => exact c1 0 (by decide)
def okSPeriod (x : SPeriod) : Prop := (Lit.int .i64 x.At).wf = true ∧ (Lit.int .i64 x.Limit).wf = true
theorem rdSPeriod : Rd enc Try.prog w 62 2 cSPeriod okSPeriod := by
  intro fuel cs d h
  obtain ⟨xs, n, rfl, rfl, hlen, hxs, hf⟩ := DataW.trod_struct Try.underlying62 h
  obtain ⟨a0, w0, c0⟩ := rd_field (rd_int Try.underlying3) (show Try.prog.cellsOf 3 = 1 by kernel_rfl) (hf 0 _ rfl) (by rw [List.getElem?_eq_getElem (by rw [hxs]; decide)]; rfl)
  obtain ⟨a1, w1, c1⟩ := rd_field (rd_int Try.underlying3) (show Try.prog.cellsOf 3 = 1 by kernel_rfl) (hf 1 _ rfl) (by rw [List.getElem?_eq_getElem (by rw [hxs]; decide)]; rfl)
  refine ⟨SPeriod.mk a0 a1, ⟨w0, w1⟩, hlen.trans (show Try.prog.cellsOf 62 = 2 by kernel_rfl), fun j hj => ?_⟩
  match j, hj with
  | 0, _ => exact c0 0 (by decide)
  | 1, _ => exact c1 0 (by decide)
def okSProfile (x : SProfile) : Prop := (Lit.int .i64 x.ID).wf = true ∧ (Lit.int .i64 x.Level).wf = true ∧ (Lit.int .i64 x.Purpose).wf = true ∧ (Lit.int .i64 x.Kind).wf = true ∧ (Lit.int .i64 x.Conn).wf = true ∧ x.Txn.size ≤ maxLen ∧ (Lit.int .i64 x.Span_From).wf = true ∧ (Lit.int .i64 x.Span_To).wf = true ∧ (Lit.int .i64 x.Start).wf = true ∧ (Lit.int .i64 x.Duration).wf = true ∧ okVec okSPeriod x.Periods
theorem rdSProfile : Rd enc Try.prog w 29 11 cSProfile okSProfile := by
  intro fuel cs d h
  obtain ⟨xs, n, rfl, rfl, hlen, hxs, hf⟩ := DataW.trod_struct Try.underlying29 h
  obtain ⟨a0, w0, c0⟩ := rd_field (rd_int Try.underlying3) (show Try.prog.cellsOf 3 = 1 by kernel_rfl) (hf 0 _ rfl) (by rw [List.getElem?_eq_getElem (by rw [hxs]; decide)]; rfl)
  obtain ⟨a1, w1, c1⟩ := rd_field (rd_int Try.underlying3) (show Try.prog.cellsOf 3 = 1 by kernel_rfl) (hf 1 _ rfl) (by rw [List.getElem?_eq_getElem (by rw [hxs]; decide)]; rfl)
  obtain ⟨a2, w2, c2⟩ := rd_field (rd_int Try.underlying3) (show Try.prog.cellsOf 3 = 1 by kernel_rfl) (hf 2 _ rfl) (by rw [List.getElem?_eq_getElem (by rw [hxs]; decide)]; rfl)
  obtain ⟨a3, w3, c3⟩ := rd_field (rd_int Try.underlying3) (show Try.prog.cellsOf 3 = 1 by kernel_rfl) (hf 3 _ rfl) (by rw [List.getElem?_eq_getElem (by rw [hxs]; decide)]; rfl)
  obtain ⟨a4, w4, c4⟩ := rd_field (rd_int Try.underlying3) (show Try.prog.cellsOf 3 = 1 by kernel_rfl) (hf 4 _ rfl) (by rw [List.getElem?_eq_getElem (by rw [hxs]; decide)]; rfl)
  obtain ⟨a5, w5, c5⟩ := rd_field (rd_str Try.underlying9) (show Try.prog.cellsOf 9 = 1 by kernel_rfl) (hf 5 _ rfl) (by rw [List.getElem?_eq_getElem (by rw [hxs]; decide)]; rfl)
  obtain ⟨a6, w6, c6⟩ := rd_field rdSSpan (show Try.prog.cellsOf 26 = 2 by kernel_rfl) (hf 6 _ rfl) (by rw [List.getElem?_eq_getElem (by rw [hxs]; decide)]; rfl)
  obtain ⟨a7, w7, c7⟩ := rd_field (rd_int Try.underlying3) (show Try.prog.cellsOf 3 = 1 by kernel_rfl) (hf 7 _ rfl) (by rw [List.getElem?_eq_getElem (by rw [hxs]; decide)]; rfl)
  obtain ⟨a8, w8, c8⟩ := rd_field (rd_int Try.underlying3) (show Try.prog.cellsOf 3 = 1 by kernel_rfl) (hf 8 _ rfl) (by rw [List.getElem?_eq_getElem (by rw [hxs]; decide)]; rfl)
  obtain ⟨a9, w9, c9⟩ := rd_field (rd_slice dSPeriod Try.underlying27 (show Try.prog.cellsOf 62 = 2 by kernel_rfl) rdSPeriod) (show Try.prog.cellsOf 27 = 1 by kernel_rfl) (hf 9 _ rfl) (by rw [List.getElem?_eq_getElem (by rw [hxs]; decide)]; rfl)
  refine ⟨SProfile.mk a0 a1 a2 a3 a4 a5 a6.From a6.To a7 a8 a9, ⟨w0, w1, w2, w3, w4, w5, w6.1, w6.2, w7, w8, w9⟩, hlen.trans (show Try.prog.cellsOf 29 = 11 by kernel_rfl), fun j hj => ?_⟩
  match j, hj with
  | 0, _ => exact c0 0 (by decide)
  | 1, _ => exact c1 0 (by decide)
  | 2, _ => exact c2 0 (by decide)
  | 3, _ => exact c3 0 (by decide)
  | 4, _ => exact c4 0 (by decide)
  | 5, _ => exact c5 0 (by decide)
  | 6, _ => exact c6 0 (by decide)
  | 7, _ => exact c6 1 (by decide)
  | 8, _ => exact c7 0 (by decide)
  | 9, _ => exact c8 0 (by decide)
  | 10, _ => exact c9 0 (by decide)
def okSComposed (x : SComposed) : Prop := okVec okSProfile x.L ∧ (Lit.int .i64 x.Conn).wf = true ∧ x.Txn.size ≤ maxLen ∧ (Lit.int .i64 x.Start).wf = true ∧ (Lit.int .i64 x.T).wf = true ∧ (Lit.int .i64 x.Length).wf = true
theorem rdSComposed : Rd enc Try.prog w 24 6 cSComposed okSComposed := by
  intro fuel cs d h
  obtain ⟨xs, n, rfl, rfl, hlen, hxs, hf⟩ := DataW.trod_struct Try.underlying24 h
  obtain ⟨a0, w0, c0⟩ := rd_field (rd_slice dSProfile Try.underlying22 (show Try.prog.cellsOf 29 = 11 by kernel_rfl) rdSProfile) (show Try.prog.cellsOf 22 = 1 by kernel_rfl) (hf 0 _ rfl) (by rw [List.getElem?_eq_getElem (by rw [hxs]; decide)]; rfl)
  obtain ⟨a1, w1, c1⟩ := rd_field (rd_int Try.underlying3) (show Try.prog.cellsOf 3 = 1 by kernel_rfl) (hf 1 _ rfl) (by rw [List.getElem?_eq_getElem (by rw [hxs]; decide)]; rfl)
  obtain ⟨a2, w2, c2⟩ := rd_field (rd_str Try.underlying9) (show Try.prog.cellsOf 9 = 1 by kernel_rfl) (hf 2 _ rfl) (by rw [List.getElem?_eq_getElem (by rw [hxs]; decide)]; rfl)
  obtain ⟨a3, w3, c3⟩ := rd_field (rd_int Try.underlying3) (show Try.prog.cellsOf 3 = 1 by kernel_rfl) (hf 3 _ rfl) (by rw [List.getElem?_eq_getElem (by rw [hxs]; decide)]; rfl)
  obtain ⟨a4, w4, c4⟩ := rd_field (rd_int Try.underlying3) (show Try.prog.cellsOf 3 = 1 by kernel_rfl) (hf 4 _ rfl) (by rw [List.getElem?_eq_getElem (by rw [hxs]; decide)]; rfl)
  obtain ⟨a5, w5, c5⟩ := rd_field (rd_int Try.underlying3) (show Try.prog.cellsOf 3 = 1 by kernel_rfl) (hf 5 _ rfl) (by rw [List.getElem?_eq_getElem (by rw [hxs]; decide)]; rfl)
  refine ⟨SComposed.mk a0 a1 a2 a3 a4 a5, ⟨w0, w1, w2, w3, w4, w5⟩, hlen.trans (show Try.prog.cellsOf 24 = 6 by kernel_rfl), fun j hj => ?_⟩
  match j, hj with
  | 0, _ => exact c0 0 (by decide)
  | 1, _ => exact c1 0 (by decide)
  | 2, _ => exact c2 0 (by decide)
  | 3, _ => exact c3 0 (by decide)
  | 4, _ => exact c4 0 (by decide)
  | 5, _ => exact c5 0 (by decide)
end
end Go.Proofs.Ytfbkimhoncfnmaa.W
