/- Parts of slices and of strings. -/
import Derived.Test.YtfefnffdocmlmaaEngP
import Derived.Laws.Slices
import Derived.Laws.Strings2
namespace Go.Proofs.Ytfefnffdocmlmaa.E
open Go Go.RowKit
set_option linter.unusedVariables false
theorem addr_add (b o m : Nat) : (⟨b, o, none⟩ : Addr).add m = ⟨b, o + m, none⟩ := by
 unfold Addr.add
 by_cases hm : m = 0
 ·subst hm; simp
 ·simp [hm]
section
variable {P : Program} {N : Fr} {o : Oper} {st : St} {x y z : Operand} {t : TypeId} {d : Nat} {ev : Operand → AV} {objs : List Ob} {α : Type} {c : α → Nat → Cell} {d0 : α} {l : List α} {e' k bytes : Nat} {kl kh : IntKind} {lo hi : Int}
end
end Go.Proofs.Ytfefnffdocmlmaa.E
