/- Strings. -/
import Derived.Test.YtjpooimkhkhgkaaEngK
import Derived.Laws.Strings
import Derived.Laws.Concat
import Derived.Laws.BytesString
import Derived.Laws.RangeString
import Derived.Laws.Cells
namespace Go.Proofs.Ytjpooimkhkhgkaa.E
open Go Go.RowKit
set_option linter.unusedVariables false

def sEq (a b : ByteArray) : Bool := a.data.toList == b.data.toList
def sGet (s : ByteArray) (i : Nat) : Int := ((s.data.toList.getD i 0).toNat : Int)
section
variable {P : Program} {N : Fr} {o : Oper} {st : St} {x y : Operand} {t : TypeId} {d : Nat} {ev : Operand → AV} {objs : List Ob}

theorem q_sbin {p q : ByteArray} {t2 : TypeId} {op : BinOp} {c : Bool} (ho : o.op = .binOp op t x y t2) (hx : ev x = .c (.str p)) (hy : ev y = .c (.str q))
    (hb : binOp op t (.string p) (.string q) = pure (.bool c)) : QOp P o ev objs (.c (.bool c)) := by
  refine QOp.of_run fun e loc w a hr h => ?_
  have h1 := h x (by simp [ho, Op.operands]); rw [hx] at h1
  have h2 := h y (by simp [ho, Op.operands]); rw [hy] at h2
  have h1' : a.eval x = .string p := h1
  have h2' : a.eval y = .string q := h2
  have hg : (eqGuard op t x y (.string p) (.string q)).run P w = .ok () w := by
    unfold eqGuard
    split <;> rfl
  refine ⟨.bool c, ?_, rfl⟩
  simp only [execOp, ho, h1', h2', Sem.run_bind, hg, hb, Result.andThen_ok, Sem.run_pure]

theorem q_eqlS {p q : ByteArray} {t2 : TypeId} (ho : o.op = .binOp .eql t x y t2) (hx : ev x = .c (.str p)) (hy : ev y = .c (.str q)) : QOp P o ev objs (.c (.bool (sEq p q))) :=
  q_sbin ho hx hy (by rw [binOp_string_eql, ByteArray.toList_eq, ByteArray.toList_eq]; rfl)
theorem q_neqS {p q : ByteArray} {t2 : TypeId} (ho : o.op = .binOp .neq t x y t2) (hx : ev x = .c (.str p)) (hy : ev y = .c (.str q)) : QOp P o ev objs (.c (.bool (!(sEq p q)))) :=
  q_sbin ho hx hy (by rw [binOp_string_neq, ByteArray.toList_eq, ByteArray.toList_eq]; rfl)
theorem sGet_at {s : ByteArray} {i : Nat} (h : i < s.size) : ((s[i]'h).toNat : Int) = sGet s i := by
  have h' : i < s.data.toList.length := by simpa using h
  unfold sGet
  rw [List.getD_eq_getElem?_getD, List.getElem?_eq_getElem h']
  simp
  rfl

theorem q_index_str {k : IntKind} {s : ByteArray} {i : Int} (ho : o.op = .index t x y) (hx : ev x = .c (.str s)) (hy : ev y = .c (.int k i)) (ht : P.underlying t = some .string) (h0 : 0 ≤ i) (h1 : i < (s.size : Int)) : QOp P o ev objs (.c (.int .u8 (sGet s i.toNat))) := by
  refine QOp.of_run fun e loc w a hr hh => ?_
  have h2 := hh x (by simp [ho, Op.operands]); rw [hx] at h2
  have h3 := hh y (by simp [ho, Op.operands]); rw [hy] at h3
  have h2' : a.eval x = .string s := h2
  have h3' : a.eval y = .int k i := h3
  refine ⟨.int .u8 (sGet s i.toNat), ?_, rfl⟩
  simp only [execOp, ho, h2', h3', Sem.run_bind, run_index_string w t s k i ht, dif_pos (And.intro h0 h1), Result.andThen_ok, Sem.run_pure]
  rw [sGet_at]

end
end Go.Proofs.Ytjpooimkhkhgkaa.E
