/- Tables of rows: an array of slices, each with memory of its own. A row is taken out, and laid back. -/
import Derived.Test.YthpblkclpfmbeaaEngT
namespace Go.Proofs.Ythpblkclpfmbeaa.E
open Go Go.RowKit
set_option linter.unusedVariables false

section
variable {α : Type} {c : α → Nat → Cell} {d0 : α} {P : Program} {N : Fr} {o : Oper} {st : St} {x y : Operand} {t : TypeId} {d : Nat} {ev : Operand → AV} {objs : List Ob}

def iAnd (k : IntKind) (m n : Int) : Int := k.wrap ((BitVec.ofInt k.bits m &&& BitVec.ofInt k.bits n).toNat : Nat)
theorem q_and {k : IntKind} {m n : Int} {t1 t2 : TypeId} (ho : o.op = .binOp .and t1 x y t2) (hx : ev x = .c (.int k m)) (hy : ev y = .c (.int k n)) : QOp P o ev objs (.c (.int k (iAnd k m n))) :=
  q_binInt ho hx hy fun w => ⟨.int k (iAnd k m n), by simp [eqGuard, binOp, Op.intBits, iAnd], fun _ => rfl⟩
end
end Go.Proofs.Ythpblkclpfmbeaa.E
