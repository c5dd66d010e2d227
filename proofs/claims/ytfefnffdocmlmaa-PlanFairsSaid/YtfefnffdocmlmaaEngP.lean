/- The library's sort at int; structures compared; a slice compared to nil. -/
import Derived.Test.YtfefnffdocmlmaaEngO
import Derived.Sort.Grow
import Derived.Sort.Row
import Derived.Laws.StructEq
import Derived.ChangeKeysEq
import Derived.Laws.Shifts
namespace Go.Proofs.Ytfefnffdocmlmaa.E
open Go Go.RowKit
set_option linter.unusedVariables false
def insI (x : Int) : List Int → List Int
 | [] => [x]
 | y :: r => bif decide (x ≤ y) then x :: y :: r else y :: insI x r
def sortI : List Int → List Int
 | [] => []
 | x :: r => insI x (sortI r)
theorem insI_perm (x : Int) : ∀ l : List Int, (insI x l).Perm (x :: l)
 | [] => List.Perm.refl _
 | y :: r => by
  simp only [insI]
  cases decide (x ≤ y) with
  | true => exact List.Perm.refl _
  | false => exact ((insI_perm x r).cons y).trans (List.Perm.swap x y r)
theorem sortI_perm : ∀ l : List Int, (sortI l).Perm l
 | [] => List.Perm.refl _
 | x :: r => (insI_perm x (sortI r)).trans ((sortI_perm r).cons x)
theorem insI_sorted (x : Int) : ∀ l : List Int, l.Pairwise (· ≤ ·) → (insI x l).Pairwise (· ≤ ·)
 | [], _ => by simp [insI]
 | y :: r, h => by
  rw [List.pairwise_cons] at h
  simp only [insI]
  cases hd : decide (x ≤ y) with
  | true =>
   have hxy := of_decide_eq_true hd
   simp only [cond_true, List.pairwise_cons]
   refine ⟨fun z hz => ?_, h⟩
   cases hz with
   | head => exact hxy
   | tail _ hz => exact Int.le_trans hxy (h.1 z hz)
  | false =>
   have hxy := of_decide_eq_false hd
   simp only [cond_false, List.pairwise_cons]
   refine ⟨fun z hz => ?_, insI_sorted x r h.2⟩
   have := (insI_perm x r).mem_iff.1 hz
   cases this with
   | head => omega
   | tail _ hz => exact h.1 z hz
theorem sortI_sorted : ∀ l : List Int, (sortI l).Pairwise (· ≤ ·)
 | [] => List.Pairwise.nil
 | x :: r => insI_sorted x _ (sortI_sorted r)
theorem sortI_len (l : List Int) : (sortI l).length = l.length := (sortI_perm l).length_eq
section
variable {P : Program} {N : Fr} {o : Oper} {st : St} {x y : Operand} {t : TypeId} {d : Nat} {ev : Operand → AV} {objs : List Ob}
end
end Go.Proofs.Ytfefnffdocmlmaa.E
