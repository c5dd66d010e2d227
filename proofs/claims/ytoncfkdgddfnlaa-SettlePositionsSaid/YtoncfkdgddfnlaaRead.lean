/- Written by a program of ours (wip/eng/law.py): what a reading of the arguments says. -/
import Derived.Test.YtoncfkdgddfnlaaFacts
import Derived.Test.YtoncfkdgddfnlaaEngN
import Derived.ChangeShapes
namespace Go.Proofs.Ytoncfkdgddfnlaa.W
open Go Go.RowKit Go.Proofs Go.Proofs.Ytoncfkdgddfnlaa.E Go.Proofs.Ytoncfkdgddfnlaa.M
set_option linter.unusedVariables false
section
variable {H : Type} {enc : TypeId × Value → H} {w : World}
def okSBalance (x : SBalance) : Prop := x.Creditor.size ≤ maxLen ∧ x.Debtor.size ≤ maxLen ∧ x.Currency.size ≤ maxLen ∧ (Lit.int .i64 x.Amount).wf = true
theorem rdSBalance : Rd enc Try.prog w 35 4 cSBalance okSBalance := by
  intro fuel cs d h
  obtain ⟨xs, n, rfl, rfl, hlen, hxs, hf⟩ := DataW.trod_struct Try.underlying35 h
  obtain ⟨a0, w0, c0⟩ := rd_field (rd_str Try.underlying9) (show Try.prog.cellsOf 9 = 1 by kernel_rfl) (hf 0 _ rfl) (by rw [List.getElem?_eq_getElem (by rw [hxs]; decide)]; rfl)
  obtain ⟨a1, w1, c1⟩ := rd_field (rd_str Try.underlying9) (show Try.prog.cellsOf 9 = 1 by kernel_rfl) (hf 1 _ rfl) (by rw [List.getElem?_eq_getElem (by rw [hxs]; decide)]; rfl)
  obtain ⟨a2, w2, c2⟩ := rd_field (rd_str Try.underlying9) (show Try.prog.cellsOf 9 = 1 by kernel_rfl) (hf 2 _ rfl) (by rw [List.getElem?_eq_getElem (by rw [hxs]; decide)]; rfl)
  obtain ⟨a3, w3, c3⟩ := rd_field (rd_int Try.underlying3) (show Try.prog.cellsOf 3 = 1 by kernel_rfl) (hf 3 _ rfl) (by rw [List.getElem?_eq_getElem (by rw [hxs]; decide)]; rfl)
  refine ⟨SBalance.mk a0 a1 a2 a3, ⟨w0, w1, w2, w3⟩, hlen.trans (show Try.prog.cellsOf 35 = 4 by kernel_rfl), fun j hj => ?_⟩
  match j, hj with
  | 0, _ => exact c0 0 (by decide)
  | 1, _ => exact c1 0 (by decide)
  | 2, _ => exact c2 0 (by decide)
  | 3, _ => exact c3 0 (by decide)
end
end Go.Proofs.Ytoncfkdgddfnlaa.W
