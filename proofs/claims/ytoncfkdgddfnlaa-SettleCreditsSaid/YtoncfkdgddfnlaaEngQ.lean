/- Parts of slices and of strings. -/
import Derived.Test.YtoncfkdgddfnlaaEngP
import Derived.Laws.Slices
import Derived.Laws.Strings2
namespace Go.Proofs.Ytoncfkdgddfnlaa.E
open Go Go.RowKit
set_option linter.unusedVariables false
section
variable {P : Program} {N : Fr} {o : Oper} {st : St} {x y z : Operand} {t : TypeId} {d : Nat} {ev : Operand → AV} {objs : List Ob} {α : Type} {c : α → Nat → Cell} {d0 : α} {l : List α} {e' k bytes : Nat} {kl kh : IntKind} {lo hi : Int}
end
end Go.Proofs.Ytoncfkdgddfnlaa.E
