/- Written by a program of ours (wip/eng/law.py): what a reading of the arguments says. -/
import Derived.Test.YthpblkclpfmbeaaFacts
import Derived.Test.YthpblkclpfmbeaaEngN
import Derived.ChangeShapes
namespace Go.Proofs.Ythpblkclpfmbeaa.W
open Go Go.RowKit Go.Proofs Go.Proofs.Ythpblkclpfmbeaa.E Go.Proofs.Ythpblkclpfmbeaa.M
set_option linter.unusedVariables false
section
variable {H : Type} {enc : TypeId × Value → H} {w : World}
def okSRule (x : SRule) : Prop := (Lit.int .u64 x.Mask).wf = true ∧ (Lit.int .i64 x.Most).wf = true
theorem rdSRule : Rd enc Try.prog w 51 2 cSRule okSRule := by
  intro fuel cs d h
  obtain ⟨xs, n, rfl, rfl, hlen, hxs, hf⟩ := DataW.trod_struct Try.underlying51 h
  obtain ⟨a0, w0, c0⟩ := rd_field (rd_int Try.underlying49) (show Try.prog.cellsOf 49 = 1 by kernel_rfl) (hf 0 _ rfl) (by rw [List.getElem?_eq_getElem (by rw [hxs]; decide)]; rfl)
  obtain ⟨a1, w1, c1⟩ := rd_field (rd_int Try.underlying3) (show Try.prog.cellsOf 3 = 1 by kernel_rfl) (hf 1 _ rfl) (by rw [List.getElem?_eq_getElem (by rw [hxs]; decide)]; rfl)
  refine ⟨SRule.mk a0 a1, ⟨w0, w1⟩, hlen.trans (show Try.prog.cellsOf 51 = 2 by kernel_rfl), fun j hj => ?_⟩
  match j, hj with
  | 0, _ => exact c0 0 (by decide)
  | 1, _ => exact c1 0 (by decide)
end
end Go.Proofs.Ythpblkclpfmbeaa.W
