/- Strings. -/
import Derived.Test.YtoncfkdgddfnlaaEngK
import Derived.Laws.Strings
import Derived.Laws.Concat
import Derived.Laws.BytesString
import Derived.Laws.RangeString
import Derived.Laws.Cells
namespace Go.Proofs.Ytoncfkdgddfnlaa.E
open Go Go.RowKit
set_option linter.unusedVariables false
def sEq (a b : ByteArray) : Bool := a.data.toList == b.data.toList
def sLt (a b : ByteArray) : Bool := Op.bytesLess a.data.toList b.data.toList
def sGet (s : ByteArray) (i : Nat) : Int := ((s.data.toList.getD i 0).toNat : Int)
section
variable {P : Program} {N : Fr} {o : Oper} {st : St} {x y : Operand} {t : TypeId} {d : Nat} {ev : Operand → AV} {objs : List Ob}
theorem q_sbin {p q : ByteArray} {t2 : TypeId} {op : BinOp} {c : Bool} (ho : o.op = .binOp op t x y t2) (hx : ev x = .c (.str p)) (hy : ev y = .c (.str q))
  (hb : binOp op t (.string p) (.string q) = pure (.bool c)) : QOp P o ev objs (.c (.bool c)) := by
 refine QOp.of_run fun e loc w a hr h => ?_
 have h1 := h x (by simp [ho, Op.operands]); rw [hx] at h1
 have h2 := h y (by simp [ho, Op.operands]); rw [hy] at h2
 have h1' : a.eval x = .string p := h1
 have h2' : a.eval y = .string q := h2
 have hg : (eqGuard op t x y (.string p) (.string q)).run P w = .ok () w := by
  unfold eqGuard
  split <;> rfl
 refine ⟨.bool c, ?_, rfl⟩
 simp only [execOp, ho, h1', h2', Sem.run_bind, hg, hb, Result.andThen_ok, Sem.run_pure]
theorem q_eqlS {p q : ByteArray} {t2 : TypeId} (ho : o.op = .binOp .eql t x y t2) (hx : ev x = .c (.str p)) (hy : ev y = .c (.str q)) : QOp P o ev objs (.c (.bool (sEq p q))) :=
 q_sbin ho hx hy (by rw [binOp_string_eql, ByteArray.toList_eq, ByteArray.toList_eq]; rfl)
theorem q_neqS {p q : ByteArray} {t2 : TypeId} (ho : o.op = .binOp .neq t x y t2) (hx : ev x = .c (.str p)) (hy : ev y = .c (.str q)) : QOp P o ev objs (.c (.bool (!(sEq p q)))) :=
 q_sbin ho hx hy (by rw [binOp_string_neq, ByteArray.toList_eq, ByteArray.toList_eq]; rfl)
theorem q_lssS {p q : ByteArray} {t2 : TypeId} (ho : o.op = .binOp .lss t x y t2) (hx : ev x = .c (.str p)) (hy : ev y = .c (.str q)) : QOp P o ev objs (.c (.bool (sLt p q))) :=
 q_sbin ho hx hy (by rw [binOp_string_lss, ByteArray.toList_eq, ByteArray.toList_eq]; rfl)
theorem sGet_at {s : ByteArray} {i : Nat} (h : i < s.size) : ((s[i]'h).toNat : Int) = sGet s i := by
 have h' : i < s.data.toList.length := by simpa using h
 unfold sGet
 rw [List.getD_eq_getElem?_getD, List.getElem?_eq_getElem h']
 simp
 rfl
theorem q_index_str {k : IntKind} {s : ByteArray} {i : Int} (ho : o.op = .index t x y) (hx : ev x = .c (.str s)) (hy : ev y = .c (.int k i)) (ht : P.underlying t = some .string) (h0 : 0 ≤ i) (h1 : i < (s.size : Int)) : QOp P o ev objs (.c (.int .u8 (sGet s i.toNat))) := by
 refine QOp.of_run fun e loc w a hr hh => ?_
 have h2 := hh x (by simp [ho, Op.operands]); rw [hx] at h2
 have h3 := hh y (by simp [ho, Op.operands]); rw [hy] at h3
 have h2' : a.eval x = .string s := h2
 have h3' : a.eval y = .int k i := h3
 refine ⟨.int .u8 (sGet s i.toNat), ?_, rfl⟩
 simp only [execOp, ho, h2', h3', Sem.run_bind, run_index_string w t s k i ht, dif_pos (And.intro h0 h1), Result.andThen_ok, Sem.run_pure]
 rw [sGet_at]
theorem e_range {s : ByteArray} (ho : o.op = .range t x) (hd : o.dst = some d) (hN : Nat.blt d N.N = true) (hx : evs st.slots x = .c (.str s)) (ht : P.underlying t = some .string) :
  EOp P N o st ⟨(d, .c (.ptr st.objs.length 0)) :: st.slots, st.objs ++ [.raw (.stringIter s 0)]⟩ := by
 intro e loc a w hr K Q hK
 have hv := hr.eval x
 rw [hx] at hv
 have hv' : a.eval x = .string s := hv
 have hrun : (execOp a.eval o).run P w = .ok (.value (.pointer (some ⟨w.heap.size, 0, none⟩))) (w.alloc (.stringIter s 0)) := by
  simp [execOp, ho, hv', run_range_string w t s ht, World.iter]
 unfold Oper.wp
 rw [hrun]
 have hs : SRep e N ⟨st.slots, st.objs ++ [.raw (.stringIter s 0)]⟩ (locAdd loc st.objs.length (some (w.heap.size, 1))) a (w.alloc (.stringIter s 0)) := by
  refine hr.step (hr.heap.birth (below_alloc w _) (.raw (.stringIter s 0)) (some (w.heap.size, 1)) (fun b c h => by cases h; simp) (fun hle => ?_))
  exact ⟨w.heap.size, 1, rfl, heap_new w _⟩
 have := hs.put (some d) (fun s hs => by cases hs; simpa [Nat.blt_eq] using hN) (v := .c (.ptr st.objs.length 0)) (u := .pointer (some ⟨w.heap.size, 0, none⟩)) (ptr_new (w := w) _ _)
 rw [Oper.upon_value, hd]
 exact hK _ _ _ this
theorem keep_setObj (w : World) (b : Nat) (ob : Obj) : Keep (fun k => k = b) w { w with heap := w.heap.setIfInBounds b ob } :=
 ⟨rfl, rfl, rfl, by simp, fun k _ hk => by simp [Array.getElem?_setIfInBounds_ne (Ne.symm hk)]⟩
theorem e_next_t {s : ByteArray} {pos id : Nat} (ho : o.op = .next x true) (hd : o.dst = some d) (hN : Nat.blt d N.N = true) (hx : evs st.slots x = .c (.ptr id 0)) (hob : st.objs[id]? = some (.raw (.stringIter s pos))) (hp : decide (pos < s.size) = true) :
  EOp P N o st ⟨(d, .t [.c (.bool true), .c (.int .i64 pos), .c (.int .i32 (Utf8.decode s pos).1)]) :: st.slots, st.objs.set id (.raw (.stringIter s (pos + (Utf8.decode s pos).2)))⟩ := by
 have hp := of_decide_eq_true hp
 intro e loc a w hr K Q hK
 have h2 := hr.eval x; rw [hx] at h2
 obtain ⟨_, _, b, c', hloc, hv⟩ := h2
 have hrep := hr.heap.rep id _ hob
 obtain ⟨b2, c2, hl2, hh⟩ := hrep
 have hloc' : loc id = some (b, c') := hloc
 rw [hloc'] at hl2
 cases hl2
 have hh' : w.heap[b]? = some (.stringIter s pos) := hh
 have hb : b < w.heap.size := (Array.getElem?_eq_some_iff.1 hh').1
 have hrun : (execOp a.eval o).run P w = .ok (.value (.tuple #[.bool true, .int .i64 pos, .int .i32 (Utf8.decode s pos).1])) { w with heap := w.heap.setIfInBounds b (.stringIter s (pos + (Utf8.decode s pos).2)) } := by
  simp [execOp, ho, hv, Instr.next, getObj, setObj, Sem.run, hh', hp, goInt, Result.andThen]
 unfold Oper.wp
 rw [hrun]
 have hnew : (w.heap.setIfInBounds b (.stringIter s (pos + (Utf8.decode s pos).2)))[b]? = some (.stringIter s (pos + (Utf8.decode s pos).2)) := by simp [hb]
 have hs := hr.step (hr.heap.write (o' := .raw (.stringIter s (pos + (Utf8.decode s pos).2))) hob rfl hloc' (keep_setObj w b (.stringIter s (pos + (Utf8.decode s pos).2))) (fun hle => by
  rw [hloc']
  exact ⟨b, c', rfl, hnew⟩))
 have := hs.put (some d) (fun s hs => by cases hs; simpa [Nat.blt_eq] using hN) (v := .t [.c (.bool true), .c (.int .i64 pos), .c (.int .i32 (Utf8.decode s pos).1)]) (u := .tuple #[.bool true, .int .i64 pos, .int .i32 (Utf8.decode s pos).1])
  ⟨_, rfl, rfl, rfl, rfl, trivial⟩
 rw [Oper.upon_value, hd]
 exact hK _ _ loc this
theorem q_next_f {s : ByteArray} {pos id : Nat} (ho : o.op = .next x true) (hx : ev x = .c (.ptr id 0)) (hob : objs[id]? = some (.raw (.stringIter s pos))) (hp : decide (pos < s.size) = false) :
  QOp P o ev objs (.t [.c (.bool false)]) := by
 have hp := of_decide_eq_false hp
 refine QOp.of_run fun e loc w a hr hh => ?_
 have h2 := hh x (by simp [ho, Op.operands]); rw [hx] at h2
 obtain ⟨_, _, b, c', hloc, hv⟩ := h2
 have hrep := hr.rep id _ hob
 obtain ⟨b2, c2, hl2, hh⟩ := hrep
 have hloc' : loc id = some (b, c') := hloc
 rw [hloc'] at hl2
 cases hl2
 have hh' : w.heap[b]? = some (.stringIter s pos) := hh
 refine ⟨.tuple #[.bool false], ?_, ⟨_, rfl, rfl, trivial⟩⟩
 simp [execOp, ho, hv, Instr.next, getObj, Sem.run, hh', hp, Result.andThen]
end
end Go.Proofs.Ytoncfkdgddfnlaa.E
