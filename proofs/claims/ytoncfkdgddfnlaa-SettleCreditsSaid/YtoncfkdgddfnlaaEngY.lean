/- Tables of frozen rows, with one row of one's own. -/
import Derived.Test.YtoncfkdgddfnlaaEngX
namespace Go.Proofs.Ytoncfkdgddfnlaa.E
open Go Go.RowKit
set_option linter.unusedVariables false
section
variable {P : Program} {N : Fr} {o : Oper} {st : St} {ev : Operand → AV} {objs : List Ob} {t : TypeId} {x y : Operand}
end
end Go.Proofs.Ytoncfkdgddfnlaa.E
