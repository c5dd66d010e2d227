/- Parts of arrays of one's own; copying into them; clearing them. -/
import Derived.Test.YtoncfkdgddfnlaaEngQ
import Derived.Laws.CopyRow
import Derived.Laws.Entries
namespace Go.Proofs.Ytoncfkdgddfnlaa.E
open Go Go.RowKit
set_option linter.unusedVariables false
section
variable {P : Program} {N : Fr} {o : Oper} {st : St} {x y z ix : Operand} {t z' : TypeId} {d : Nat} {ev : Operand → AV} {objs : List Ob} {α : Type} {c : α → Nat → Cell} {d0 : α} {l : List α} {e' k bytes id n T : Nat} {kl kh : IntKind} {lo hi : Int} {get : Nat → Nat → Cell}
def rowG (get get2 : Nat → Nat → Cell) (lo m i j : Nat) : Cell := if lo ≤ i ∧ i < lo + m then get2 (i - lo) j else get i j
theorem SRep.row {e : Env} {loc : Loc} {a : Act} {w : World} {lo m b cc : Nat} {get2 : Nat → Nat → Cell} {arr : Array Value} (hr : SRep e N st loc a w) (hob : st.objs[id]? = some (.arr T k n get)) (hl : loc id = some (b, cc))
  (hh : w.heap[b]? = some (.cells arr T (0, 0))) (hfit : lo + m ≤ n) (hk : 0 < k) (cs : List Value) (hcs : cs.length = m * k) (hrep : ∀ p u, cs[p]? = some u → RepC (ctx e st.objs loc w) false (get2 (p / k) (p % k)) u) :
  lo * k + cs.length ≤ arr.size ∧ SRep e N ⟨st.slots, st.objs.set id (.arr T k n (rowG get get2 lo m))⟩ loc a (w.setRow b (arr.toList.take (lo * k) ++ cs ++ arr.toList.drop (lo * k + cs.length)).toArray) := by
 obtain ⟨arr', hh', hsz, hnc, hcm, hg⟩ := hr.heap.arr hob hl
 have : arr' = arr := by rw [hh] at hh'; cases hh'; rfl
 subst this
 have hle : lo * k + cs.length ≤ arr'.size := by
  rw [hcs, hsz, ← Nat.add_mul]
  exact Nat.mul_le_mul_right k (by omega)
 refine ⟨hle, ?_⟩
 obtain ⟨nw, hnw⟩ : ∃ nw : Array Value, nw = (arr'.toList.take (lo * k) ++ cs ++ arr'.toList.drop (lo * k + cs.length)).toArray := ⟨_, rfl⟩
 rw [← hnw]
 have hsize : nw.size = arr'.size := by
  rw [hnw]
  simp only [List.size_toArray, List.length_append, List.length_take, List.length_drop, Array.length_toList]
  omega
 have hout : ∀ p, p < lo * k ∨ lo * k + cs.length ≤ p → nw[p]? = arr'[p]? := by
  intro p hp
  rw [hnw]
  simp only [List.getElem?_toArray]
  rcases hp with hp | hp
  ·rw [List.append_assoc, List.getElem?_append_left (by simp; omega), List.getElem?_take_of_lt hp]; simp
  ·rw [List.getElem?_append_right (by simp; omega), List.getElem?_drop]
   simp only [List.length_append, List.length_take, Array.length_toList]
   rw [Nat.min_eq_left (by omega), show lo * k + cs.length + (p - (lo * k + cs.length)) = p by omega]
   simp
 have hin : ∀ q, q < cs.length → nw[lo * k + q]? = cs[q]? := by
  intro q hq
  rw [hnw]
  simp only [List.getElem?_toArray]
  rw [List.getElem?_append_left (by simp; omega), List.getElem?_append_right (by simp; omega)]
  simp only [List.length_take, Array.length_toList]
  rw [Nat.min_eq_left (by omega), show lo * k + q - lo * k = q by omega]
 refine hr.step (hr.heap.write (o' := .arr T k n (rowG get get2 lo m)) hob rfl hl (keep_setRow w b nw) (fun hle => ?_))
 rw [hl]
 refine ⟨nw, setRow_heap w b arr' nw T _ hh, hsize.trans hsz, hnc, hcm, fun i' hi' j' hj' => ?_⟩
 by_cases hii : lo ≤ i' ∧ i' < lo + m
 ·rw [show rowG get get2 lo m i' j' = get2 (i' - lo) j' by simp [rowG, hii]]
  have hq : (i' - lo) * k + j' < cs.length := by rw [hcs]; exact idx_lt (by omega) hj'
  have hu := List.getElem?_eq_getElem hq
  refine ⟨_, ?_, RepC.mono hle _ _ _ (by have := hrep _ _ hu; rwa [idx_div hj', idx_mod hj'] at this)⟩
  rw [← hu, ← hin _ hq]
  congr 1
  have : i' * k = lo * k + (i' - lo) * k := by rw [← Nat.add_mul]; congr 1; omega
  omega
 ·rw [show rowG get get2 lo m i' j' = get i' j' by simp only [rowG, if_neg hii]]
  obtain ⟨u, hu, hrep⟩ := hg i' hi' j' hj'
  refine ⟨u, ?_, RepC.mono hle _ _ _ hrep⟩
  rw [hout _ ?_]
  ·exact hu
  ·rcases Nat.lt_or_ge i' lo with h | h
   ·left; exact idx_lt h hj'
   ·right
    rw [hcs, ← Nat.add_mul]
    have : (lo + m) * k ≤ i' * k := Nat.mul_le_mul_right k (by omega)
    omega
end
end Go.Proofs.Ytoncfkdgddfnlaa.E
