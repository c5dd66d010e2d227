/- The library's sort at int; structures compared; a slice compared to nil. -/
import Derived.Test.YtfefnffdocmlmaaEngO
import Derived.Sort.Grow
import Derived.Sort.Row
import Derived.Laws.StructEq
import Derived.ChangeKeysEq
import Derived.Laws.Shifts
namespace Go.Proofs.Ytfefnffdocmlmaa.E
open Go Go.RowKit
set_option linter.unusedVariables false
section
variable {P : Program} {N : Fr} {o : Oper} {st : St} {x y : Operand} {t : TypeId} {d : Nat} {ev : Operand → AV} {objs : List Ob}
end
end Go.Proofs.Ytfefnffdocmlmaa.E
