/- Written by a program of ours (wip/eng/law.py): what a reading of the arguments says. -/
import Derived.Test.YtoncfkdgddfnlaaFacts
import Derived.Test.YtoncfkdgddfnlaaEngN
import Derived.ChangeShapes
namespace Go.Proofs.Ytoncfkdgddfnlaa.W
open Go Go.RowKit Go.Proofs Go.Proofs.Ytoncfkdgddfnlaa.E Go.Proofs.Ytoncfkdgddfnlaa.M
set_option linter.unusedVariables false
section
variable {H : Type} {enc : TypeId × Value → H} {w : World}
def okSItem (x : SItem) : Prop := (Lit.int .i64 x.Kind).wf = true ∧ (Lit.int .i64 x.Price).wf = true ∧ (Lit.int .i64 x.Tax).wf = true ∧ (Lit.int .i64 x.Quantity).wf = true ∧ (Lit.int .i64 x.Net).wf = true ∧ (Lit.int .i64 x.Vat).wf = true ∧ (Lit.int .i64 x.Gross).wf = true
theorem rdSItem : Rd enc Try.prog w 81 7 cSItem okSItem := by
  intro fuel cs d h
  obtain ⟨xs, n, rfl, rfl, hlen, hxs, hf⟩ := DataW.trod_struct Try.underlying81 h
  obtain ⟨a0, w0, c0⟩ := rd_field (rd_int Try.underlying3) (show Try.prog.cellsOf 3 = 1 by kernel_rfl) (hf 0 _ rfl) (by rw [List.getElem?_eq_getElem (by rw [hxs]; decide)]; rfl)
  obtain ⟨a1, w1, c1⟩ := rd_field (rd_int Try.underlying3) (show Try.prog.cellsOf 3 = 1 by kernel_rfl) (hf 1 _ rfl) (by rw [List.getElem?_eq_getElem (by rw [hxs]; decide)]; rfl)
  obtain ⟨a2, w2, c2⟩ := rd_field (rd_int Try.underlying3) (show Try.prog.cellsOf 3 = 1 by kernel_rfl) (hf 2 _ rfl) (by rw [List.getElem?_eq_getElem (by rw [hxs]; decide)]; rfl)
  obtain ⟨a3, w3, c3⟩ := rd_field (rd_int Try.underlying3) (show Try.prog.cellsOf 3 = 1 by kernel_rfl) (hf 3 _ rfl) (by rw [List.getElem?_eq_getElem (by rw [hxs]; decide)]; rfl)
  obtain ⟨a4, w4, c4⟩ := rd_field (rd_int Try.underlying3) (show Try.prog.cellsOf 3 = 1 by kernel_rfl) (hf 4 _ rfl) (by rw [List.getElem?_eq_getElem (by rw [hxs]; decide)]; rfl)
  obtain ⟨a5, w5, c5⟩ := rd_field (rd_int Try.underlying3) (show Try.prog.cellsOf 3 = 1 by kernel_rfl) (hf 5 _ rfl) (by rw [List.getElem?_eq_getElem (by rw [hxs]; decide)]; rfl)
  obtain ⟨a6, w6, c6⟩ := rd_field (rd_int Try.underlying3) (show Try.prog.cellsOf 3 = 1 by kernel_rfl) (hf 6 _ rfl) (by rw [List.getElem?_eq_getElem (by rw [hxs]; decide)]; rfl)
  refine ⟨SItem.mk a0 a1 a2 a3 a4 a5 a6, ⟨w0, w1, w2, w3, w4, w5, w6⟩, hlen.trans (show Try.prog.cellsOf 81 = 7 by kernel_rfl), fun j hj => ?_⟩
  match j, hj with
  | 0, _ => exact c0 0 (by decide)
  | 1, _ => exact c1 0 (by decide)
  | 2, _ => exact c2 0 (by decide)
  | 3, _ => exact c3 0 (by decide)
  | 4, _ => exact c4 0 (by decide)
  | 5, _ => exact c5 0 (by decide)
  | 6, _ => exact c6 0 (by decide)
def okSCDR (x : SCDR) : Prop := x.ID.size ≤ maxLen ∧ x.Operator.size ≤ maxLen ∧ x.Provider.size ≤ maxLen ∧ x.Session.size ≤ maxLen ∧ (Lit.int .i64 x.Version).wf = true ∧ (Lit.int .i64 x.Start).wf = true ∧ (Lit.int .i64 x.End).wf = true ∧ (Lit.int .i64 x.Energy).wf = true ∧ x.Tariff.size ≤ maxLen ∧ x.Currency.size ≤ maxLen ∧ okVec okSItem x.Items ∧ (Lit.int .i64 x.Total).wf = true ∧ True ∧ x.Ref.size ≤ maxLen
theorem rdSCDR : Rd enc Try.prog w 47 14 cSCDR okSCDR := by
  intro fuel cs d h
  obtain ⟨xs, n, rfl, rfl, hlen, hxs, hf⟩ := DataW.trod_struct Try.underlying47 h
  obtain ⟨a0, w0, c0⟩ := rd_field (rd_str Try.underlying9) (show Try.prog.cellsOf 9 = 1 by kernel_rfl) (hf 0 _ rfl) (by rw [List.getElem?_eq_getElem (by rw [hxs]; decide)]; rfl)
  obtain ⟨a1, w1, c1⟩ := rd_field (rd_str Try.underlying9) (show Try.prog.cellsOf 9 = 1 by kernel_rfl) (hf 1 _ rfl) (by rw [List.getElem?_eq_getElem (by rw [hxs]; decide)]; rfl)
  obtain ⟨a2, w2, c2⟩ := rd_field (rd_str Try.underlying9) (show Try.prog.cellsOf 9 = 1 by kernel_rfl) (hf 2 _ rfl) (by rw [List.getElem?_eq_getElem (by rw [hxs]; decide)]; rfl)
  obtain ⟨a3, w3, c3⟩ := rd_field (rd_str Try.underlying9) (show Try.prog.cellsOf 9 = 1 by kernel_rfl) (hf 3 _ rfl) (by rw [List.getElem?_eq_getElem (by rw [hxs]; decide)]; rfl)
  obtain ⟨a4, w4, c4⟩ := rd_field (rd_int Try.underlying3) (show Try.prog.cellsOf 3 = 1 by kernel_rfl) (hf 4 _ rfl) (by rw [List.getElem?_eq_getElem (by rw [hxs]; decide)]; rfl)
  obtain ⟨a5, w5, c5⟩ := rd_field (rd_int Try.underlying3) (show Try.prog.cellsOf 3 = 1 by kernel_rfl) (hf 5 _ rfl) (by rw [List.getElem?_eq_getElem (by rw [hxs]; decide)]; rfl)
  obtain ⟨a6, w6, c6⟩ := rd_field (rd_int Try.underlying3) (show Try.prog.cellsOf 3 = 1 by kernel_rfl) (hf 6 _ rfl) (by rw [List.getElem?_eq_getElem (by rw [hxs]; decide)]; rfl)
  obtain ⟨a7, w7, c7⟩ := rd_field (rd_int Try.underlying3) (show Try.prog.cellsOf 3 = 1 by kernel_rfl) (hf 7 _ rfl) (by rw [List.getElem?_eq_getElem (by rw [hxs]; decide)]; rfl)
  obtain ⟨a8, w8, c8⟩ := rd_field (rd_str Try.underlying9) (show Try.prog.cellsOf 9 = 1 by kernel_rfl) (hf 8 _ rfl) (by rw [List.getElem?_eq_getElem (by rw [hxs]; decide)]; rfl)
  obtain ⟨a9, w9, c9⟩ := rd_field (rd_str Try.underlying9) (show Try.prog.cellsOf 9 = 1 by kernel_rfl) (hf 9 _ rfl) (by rw [List.getElem?_eq_getElem (by rw [hxs]; decide)]; rfl)
  obtain ⟨a10, w10, c10⟩ := rd_field (rd_slice dSItem Try.underlying45 (show Try.prog.cellsOf 81 = 7 by kernel_rfl) rdSItem) (show Try.prog.cellsOf 45 = 1 by kernel_rfl) (hf 10 _ rfl) (by rw [List.getElem?_eq_getElem (by rw [hxs]; decide)]; rfl)
  obtain ⟨a11, w11, c11⟩ := rd_field (rd_int Try.underlying3) (show Try.prog.cellsOf 3 = 1 by kernel_rfl) (hf 11 _ rfl) (by rw [List.getElem?_eq_getElem (by rw [hxs]; decide)]; rfl)
  obtain ⟨a12, w12, c12⟩ := rd_field (rd_bool Try.underlying4) (show Try.prog.cellsOf 4 = 1 by kernel_rfl) (hf 12 _ rfl) (by rw [List.getElem?_eq_getElem (by rw [hxs]; decide)]; rfl)
  obtain ⟨a13, w13, c13⟩ := rd_field (rd_str Try.underlying9) (show Try.prog.cellsOf 9 = 1 by kernel_rfl) (hf 13 _ rfl) (by rw [List.getElem?_eq_getElem (by rw [hxs]; decide)]; rfl)
  refine ⟨SCDR.mk a0 a1 a2 a3 a4 a5 a6 a7 a8 a9 a10 a11 a12 a13, ⟨w0, w1, w2, w3, w4, w5, w6, w7, w8, w9, w10, w11, w12, w13⟩, hlen.trans (show Try.prog.cellsOf 47 = 14 by kernel_rfl), fun j hj => ?_⟩
  match j, hj with
  | 0, _ => exact c0 0 (by decide)
  | 1, _ => exact c1 0 (by decide)
  | 2, _ => exact c2 0 (by decide)
  | 3, _ => exact c3 0 (by decide)
  | 4, _ => exact c4 0 (by decide)
  | 5, _ => exact c5 0 (by decide)
  | 6, _ => exact c6 0 (by decide)
  | 7, _ => exact c7 0 (by decide)
  | 8, _ => exact c8 0 (by decide)
  | 9, _ => exact c9 0 (by decide)
  | 10, _ => exact c10 0 (by decide)
  | 11, _ => exact c11 0 (by decide)
  | 12, _ => exact c12 0 (by decide)
  | 13, _ => exact c13 0 (by decide)
def okSDispute (x : SDispute) : Prop := x.CDR.size ≤ maxLen ∧ x.By.size ≤ maxLen ∧ (Lit.int .i64 x.State).wf = true ∧ (Lit.int .i64 x.Opened).wf = true ∧ (Lit.int .i64 x.Claim).wf = true ∧ (Lit.int .i64 x.Granted).wf = true
theorem rdSDispute : Rd enc Try.prog w 72 6 cSDispute okSDispute := by
  intro fuel cs d h
  obtain ⟨xs, n, rfl, rfl, hlen, hxs, hf⟩ := DataW.trod_struct Try.underlying72 h
  obtain ⟨a0, w0, c0⟩ := rd_field (rd_str Try.underlying9) (show Try.prog.cellsOf 9 = 1 by kernel_rfl) (hf 0 _ rfl) (by rw [List.getElem?_eq_getElem (by rw [hxs]; decide)]; rfl)
  obtain ⟨a1, w1, c1⟩ := rd_field (rd_str Try.underlying9) (show Try.prog.cellsOf 9 = 1 by kernel_rfl) (hf 1 _ rfl) (by rw [List.getElem?_eq_getElem (by rw [hxs]; decide)]; rfl)
  obtain ⟨a2, w2, c2⟩ := rd_field (rd_int Try.underlying3) (show Try.prog.cellsOf 3 = 1 by kernel_rfl) (hf 2 _ rfl) (by rw [List.getElem?_eq_getElem (by rw [hxs]; decide)]; rfl)
  obtain ⟨a3, w3, c3⟩ := rd_field (rd_int Try.underlying3) (show Try.prog.cellsOf 3 = 1 by kernel_rfl) (hf 3 _ rfl) (by rw [List.getElem?_eq_getElem (by rw [hxs]; decide)]; rfl)
  obtain ⟨a4, w4, c4⟩ := rd_field (rd_int Try.underlying3) (show Try.prog.cellsOf 3 = 1 by kernel_rfl) (hf 4 _ rfl) (by rw [List.getElem?_eq_getElem (by rw [hxs]; decide)]; rfl)
  obtain ⟨a5, w5, c5⟩ := rd_field (rd_int Try.underlying3) (show Try.prog.cellsOf 3 = 1 by kernel_rfl) (hf 5 _ rfl) (by rw [List.getElem?_eq_getElem (by rw [hxs]; decide)]; rfl)
  refine ⟨SDispute.mk a0 a1 a2 a3 a4 a5, ⟨w0, w1, w2, w3, w4, w5⟩, hlen.trans (show Try.prog.cellsOf 72 = 6 by kernel_rfl), fun j hj => ?_⟩
  match j, hj with
  | 0, _ => exact c0 0 (by decide)
  | 1, _ => exact c1 0 (by decide)
  | 2, _ => exact c2 0 (by decide)
  | 3, _ => exact c3 0 (by decide)
  | 4, _ => exact c4 0 (by decide)
  | 5, _ => exact c5 0 (by decide)
def okSSpan (x : SSpan) : Prop := (Lit.int .i64 x.From).wf = true ∧ (Lit.int .i64 x.To).wf = true
theorem rdSSpan : Rd enc Try.prog w 39 2 cSSpan okSSpan := by
  intro fuel cs d h
  obtain ⟨xs, n, rfl, rfl, hlen, hxs, hf⟩ := DataW.trod_struct Try.underlying39 h
  obtain ⟨a0, w0, c0⟩ := rd_field (rd_int Try.underlying3) (show Try.prog.cellsOf 3 = 1 by kernel_rfl) (hf 0 _ rfl) (by rw [List.getElem?_eq_getElem (by rw [hxs]; decide)]; rfl)
  obtain ⟨a1, w1, c1⟩ := rd_field (rd_int Try.underlying3) (show Try.prog.cellsOf 3 = 1 by kernel_rfl) (hf 1 _ rfl) (by rw [List.getElem?_eq_getElem (by rw [hxs]; decide)]; rfl)
  refine ⟨SSpan.mk a0 a1, ⟨w0, w1⟩, hlen.trans (show Try.prog.cellsOf 39 = 2 by kernel_rfl), fun j hj => ?_⟩
  match j, hj with
  | 0, _ => exact c0 0 (by decide)
  | 1, _ => exact c1 0 (by decide)
def okSCase (x : SCase) : Prop := okVec okSCDR x.CDRs ∧ okVec okSDispute x.Disputes ∧ x.A.size ≤ maxLen ∧ x.B.size ≤ maxLen ∧ x.Currency.size ≤ maxLen ∧ (Lit.int .i64 x.Span_From).wf = true ∧ (Lit.int .i64 x.Span_To).wf = true
theorem rdSCase : Rd enc Try.prog w 41 7 cSCase okSCase := by
  intro fuel cs d h
  obtain ⟨xs, n, rfl, rfl, hlen, hxs, hf⟩ := DataW.trod_struct Try.underlying41 h
  obtain ⟨a0, w0, c0⟩ := rd_field (rd_slice dSCDR Try.underlying36 (show Try.prog.cellsOf 47 = 14 by kernel_rfl) rdSCDR) (show Try.prog.cellsOf 36 = 1 by kernel_rfl) (hf 0 _ rfl) (by rw [List.getElem?_eq_getElem (by rw [hxs]; decide)]; rfl)
  obtain ⟨a1, w1, c1⟩ := rd_field (rd_slice dSDispute Try.underlying37 (show Try.prog.cellsOf 72 = 6 by kernel_rfl) rdSDispute) (show Try.prog.cellsOf 37 = 1 by kernel_rfl) (hf 1 _ rfl) (by rw [List.getElem?_eq_getElem (by rw [hxs]; decide)]; rfl)
  obtain ⟨a2, w2, c2⟩ := rd_field (rd_str Try.underlying9) (show Try.prog.cellsOf 9 = 1 by kernel_rfl) (hf 2 _ rfl) (by rw [List.getElem?_eq_getElem (by rw [hxs]; decide)]; rfl)
  obtain ⟨a3, w3, c3⟩ := rd_field (rd_str Try.underlying9) (show Try.prog.cellsOf 9 = 1 by kernel_rfl) (hf 3 _ rfl) (by rw [List.getElem?_eq_getElem (by rw [hxs]; decide)]; rfl)
  obtain ⟨a4, w4, c4⟩ := rd_field (rd_str Try.underlying9) (show Try.prog.cellsOf 9 = 1 by kernel_rfl) (hf 4 _ rfl) (by rw [List.getElem?_eq_getElem (by rw [hxs]; decide)]; rfl)
  obtain ⟨a5, w5, c5⟩ := rd_field rdSSpan (show Try.prog.cellsOf 39 = 2 by kernel_rfl) (hf 5 _ rfl) (by rw [List.getElem?_eq_getElem (by rw [hxs]; decide)]; rfl)
  refine ⟨SCase.mk a0 a1 a2 a3 a4 a5.From a5.To, ⟨w0, w1, w2, w3, w4, w5.1, w5.2⟩, hlen.trans (show Try.prog.cellsOf 41 = 7 by kernel_rfl), fun j hj => ?_⟩
  match j, hj with
  | 0, _ => exact c0 0 (by decide)
  | 1, _ => exact c1 0 (by decide)
  | 2, _ => exact c2 0 (by decide)
  | 3, _ => exact c3 0 (by decide)
  | 4, _ => exact c4 0 (by decide)
  | 5, _ => exact c5 0 (by decide)
  | 6, _ => exact c5 1 (by decide)
end
end Go.Proofs.Ytoncfkdgddfnlaa.W
