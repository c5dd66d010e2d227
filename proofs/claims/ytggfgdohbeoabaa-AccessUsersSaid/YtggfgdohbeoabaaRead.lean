/- Written by a program of ours (wip/eng/law.py): what a reading of the arguments says. -/
import Derived.Test.YtggfgdohbeoabaaFacts
import Derived.Test.YtggfgdohbeoabaaEngN
import Derived.ChangeShapes
namespace Go.Proofs.Ytggfgdohbeoabaa.W
open Go Go.RowKit Go.Proofs Go.Proofs.Ytggfgdohbeoabaa.E Go.Proofs.Ytggfgdohbeoabaa.M
set_option linter.unusedVariables false
section
variable {H : Type} {enc : TypeId × Value → H} {w : World}
def okSRole (x : SRole) : Prop := x.Name.size ≤ maxLen ∧ okVec (fun x : Int => (Lit.int .i64 x).wf = true) x.Actions ∧ x.Prefix.size ≤ maxLen ∧ True
theorem rdSRole : Rd enc Try.prog w 51 4 cSRole okSRole := by
  intro fuel cs d h
  obtain ⟨xs, n, rfl, rfl, hlen, hxs, hf⟩ := DataW.trod_struct Try.underlying51 h
  obtain ⟨a0, w0, c0⟩ := rd_field (rd_str Try.underlying9) (show Try.prog.cellsOf 9 = 1 by kernel_rfl) (hf 0 _ rfl) (by rw [List.getElem?_eq_getElem (by rw [hxs]; decide)]; rfl)
  obtain ⟨a1, w1, c1⟩ := rd_field (rd_slice 0 Try.underlying48 (show Try.prog.cellsOf 3 = 1 by kernel_rfl) (rd_int Try.underlying3)) (show Try.prog.cellsOf 48 = 1 by kernel_rfl) (hf 1 _ rfl) (by rw [List.getElem?_eq_getElem (by rw [hxs]; decide)]; rfl)
  obtain ⟨a2, w2, c2⟩ := rd_field (rd_str Try.underlying9) (show Try.prog.cellsOf 9 = 1 by kernel_rfl) (hf 2 _ rfl) (by rw [List.getElem?_eq_getElem (by rw [hxs]; decide)]; rfl)
  obtain ⟨a3, w3, c3⟩ := rd_field (rd_bool Try.underlying4) (show Try.prog.cellsOf 4 = 1 by kernel_rfl) (hf 3 _ rfl) (by rw [List.getElem?_eq_getElem (by rw [hxs]; decide)]; rfl)
  refine ⟨SRole.mk a0 a1 a2 a3, ⟨w0, w1, w2, w3⟩, hlen.trans (show Try.prog.cellsOf 51 = 4 by kernel_rfl), fun j hj => ?_⟩
  match j, hj with
  | 0, _ => exact c0 0 (by decide)
  | 1, _ => exact c1 0 (by decide)
  | 2, _ => exact c2 0 (by decide)
  | 3, _ => exact c3 0 (by decide)
def okSSpan (x : SSpan) : Prop := (Lit.int .i64 x.From).wf = true ∧ (Lit.int .i64 x.To).wf = true
theorem rdSSpan : Rd enc Try.prog w 35 2 cSSpan okSSpan := by
  intro fuel cs d h
  obtain ⟨xs, n, rfl, rfl, hlen, hxs, hf⟩ := DataW.trod_struct Try.underlying35 h
  obtain ⟨a0, w0, c0⟩ := rd_field (rd_int Try.underlying3) (show Try.prog.cellsOf 3 = 1 by kernel_rfl) (hf 0 _ rfl) (by rw [List.getElem?_eq_getElem (by rw [hxs]; decide)]; rfl)
  obtain ⟨a1, w1, c1⟩ := rd_field (rd_int Try.underlying3) (show Try.prog.cellsOf 3 = 1 by kernel_rfl) (hf 1 _ rfl) (by rw [List.getElem?_eq_getElem (by rw [hxs]; decide)]; rfl)
  refine ⟨SSpan.mk a0 a1, ⟨w0, w1⟩, hlen.trans (show Try.prog.cellsOf 35 = 2 by kernel_rfl), fun j hj => ?_⟩
  match j, hj with
  | 0, _ => exact c0 0 (by decide)
  | 1, _ => exact c1 0 (by decide)
def okSGrant (x : SGrant) : Prop := x.User.size ≤ maxLen ∧ x.Role.size ≤ maxLen ∧ (Lit.int .i64 x.Span_From).wf = true ∧ (Lit.int .i64 x.Span_To).wf = true
theorem rdSGrant : Rd enc Try.prog w 37 4 cSGrant okSGrant := by
  intro fuel cs d h
  obtain ⟨xs, n, rfl, rfl, hlen, hxs, hf⟩ := DataW.trod_struct Try.underlying37 h
  obtain ⟨a0, w0, c0⟩ := rd_field (rd_str Try.underlying9) (show Try.prog.cellsOf 9 = 1 by kernel_rfl) (hf 0 _ rfl) (by rw [List.getElem?_eq_getElem (by rw [hxs]; decide)]; rfl)
  obtain ⟨a1, w1, c1⟩ := rd_field (rd_str Try.underlying9) (show Try.prog.cellsOf 9 = 1 by kernel_rfl) (hf 1 _ rfl) (by rw [List.getElem?_eq_getElem (by rw [hxs]; decide)]; rfl)
  obtain ⟨a2, w2, c2⟩ := rd_field rdSSpan (show Try.prog.cellsOf 35 = 2 by kernel_rfl) (hf 2 _ rfl) (by rw [List.getElem?_eq_getElem (by rw [hxs]; decide)]; rfl)
  refine ⟨SGrant.mk a0 a1 a2.From a2.To, ⟨w0, w1, w2.1, w2.2⟩, hlen.trans (show Try.prog.cellsOf 37 = 4 by kernel_rfl), fun j hj => ?_⟩
  match j, hj with
  | 0, _ => exact c0 0 (by decide)
  | 1, _ => exact c1 0 (by decide)
  | 2, _ => exact c2 0 (by decide)
  | 3, _ => exact c2 1 (by decide)
def okSCase (x : SCase) : Prop := okVec okSRole x.Roles ∧ okVec okSGrant x.Grants
theorem rdSCase : Rd enc Try.prog w 25 2 cSCase okSCase := by
  intro fuel cs d h
  obtain ⟨xs, n, rfl, rfl, hlen, hxs, hf⟩ := DataW.trod_struct Try.underlying25 h
  obtain ⟨a0, w0, c0⟩ := rd_field (rd_slice dSRole Try.underlying22 (show Try.prog.cellsOf 51 = 4 by kernel_rfl) rdSRole) (show Try.prog.cellsOf 22 = 1 by kernel_rfl) (hf 0 _ rfl) (by rw [List.getElem?_eq_getElem (by rw [hxs]; decide)]; rfl)
  obtain ⟨a1, w1, c1⟩ := rd_field (rd_slice dSGrant Try.underlying23 (show Try.prog.cellsOf 37 = 4 by kernel_rfl) rdSGrant) (show Try.prog.cellsOf 23 = 1 by kernel_rfl) (hf 1 _ rfl) (by rw [List.getElem?_eq_getElem (by rw [hxs]; decide)]; rfl)
  refine ⟨SCase.mk a0 a1, ⟨w0, w1⟩, hlen.trans (show Try.prog.cellsOf 25 = 2 by kernel_rfl), fun j hj => ?_⟩
  match j, hj with
  | 0, _ => exact c0 0 (by decide)
  | 1, _ => exact c1 0 (by decide)
def okSAsk (x : SAsk) : Prop := x.User.size ≤ maxLen ∧ (Lit.int .i64 x.Action).wf = true ∧ x.Object.size ≤ maxLen ∧ (Lit.int .i64 x.Now).wf = true
theorem rdSAsk : Rd enc Try.prog w 31 4 cSAsk okSAsk := by
  intro fuel cs d h
  obtain ⟨xs, n, rfl, rfl, hlen, hxs, hf⟩ := DataW.trod_struct Try.underlying31 h
  obtain ⟨a0, w0, c0⟩ := rd_field (rd_str Try.underlying9) (show Try.prog.cellsOf 9 = 1 by kernel_rfl) (hf 0 _ rfl) (by rw [List.getElem?_eq_getElem (by rw [hxs]; decide)]; rfl)
  obtain ⟨a1, w1, c1⟩ := rd_field (rd_int Try.underlying3) (show Try.prog.cellsOf 3 = 1 by kernel_rfl) (hf 1 _ rfl) (by rw [List.getElem?_eq_getElem (by rw [hxs]; decide)]; rfl)
  obtain ⟨a2, w2, c2⟩ := rd_field (rd_str Try.underlying9) (show Try.prog.cellsOf 9 = 1 by kernel_rfl) (hf 2 _ rfl) (by rw [List.getElem?_eq_getElem (by rw [hxs]; decide)]; rfl)
  obtain ⟨a3, w3, c3⟩ := rd_field (rd_int Try.underlying3) (show Try.prog.cellsOf 3 = 1 by kernel_rfl) (hf 3 _ rfl) (by rw [List.getElem?_eq_getElem (by rw [hxs]; decide)]; rfl)
  refine ⟨SAsk.mk a0 a1 a2 a3, ⟨w0, w1, w2, w3⟩, hlen.trans (show Try.prog.cellsOf 31 = 4 by kernel_rfl), fun j hj => ?_⟩
  match j, hj with
  | 0, _ => exact c0 0 (by decide)
  | 1, _ => exact c1 0 (by decide)
  | 2, _ => exact c2 0 (by decide)
  | 3, _ => exact c3 0 (by decide)
end
end Go.Proofs.Ytggfgdohbeoabaa.W
