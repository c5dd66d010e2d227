/- Maps with texts as keys, of one's own. -/
import Derived.Test.YtfefnffdocmlmaaEngR
import Derived.Sort.EncStr
namespace Go.Proofs.Ytfefnffdocmlmaa.E
open Go Go.RowKit
set_option linter.unusedVariables false
section
variable {α : Type}
end
section
variable {P : Program} {N : Fr} {o : Oper} {st : St} {x y z : Operand} {d : Nat} {ev : Operand → AV} {objs : List Ob} {α : Type} {mv : α → V1} {d0 : α} {l : List (ByteArray × α)} {id mt kt et : Nat} {s : ByteArray} {zz : Value}
variable {t : TypeId} {kl kh : IntKind} {lo hi : Int} {sl sh : Operand}
end
end Go.Proofs.Ytfefnffdocmlmaa.E
