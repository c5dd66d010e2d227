/- Strings. -/
import Derived.Test.YtfefnffdocmlmaaEngK
import Derived.Laws.Strings
import Derived.Laws.Concat
import Derived.Laws.BytesString
import Derived.Laws.RangeString
import Derived.Laws.Cells
namespace Go.Proofs.Ytfefnffdocmlmaa.E
open Go Go.RowKit
set_option linter.unusedVariables false
section
variable {P : Program} {N : Fr} {o : Oper} {st : St} {x y : Operand} {t : TypeId} {d : Nat} {ev : Operand → AV} {objs : List Ob}
end
end Go.Proofs.Ytfefnffdocmlmaa.E
