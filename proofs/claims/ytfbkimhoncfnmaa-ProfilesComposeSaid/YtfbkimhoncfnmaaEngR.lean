/- Parts of arrays of one's own; copying into them; clearing them. -/
import Derived.Test.YtfbkimhoncfnmaaEngQ
import Derived.Laws.CopyRow
import Derived.Laws.Entries
namespace Go.Proofs.Ytfbkimhoncfnmaa.E
open Go Go.RowKit
set_option linter.unusedVariables false

section
variable {P : Program} {N : Fr} {o : Oper} {st : St} {x y z ix : Operand} {t z' : TypeId} {d : Nat} {ev : Operand → AV} {objs : List Ob} {α : Type} {c : α → Nat → Cell} {d0 : α} {l : List α} {e' k bytes id n T : Nat} {kl kh : IntKind} {lo hi : Int} {get : Nat → Nat → Cell}

def rowG (get get2 : Nat → Nat → Cell) (lo m i j : Nat) : Cell := if lo ≤ i ∧ i < lo + m then get2 (i - lo) j else get i j

/-- Whole elements of an array of one's own are written. -/
theorem SRep.row {e : Env} {loc : Loc} {a : Act} {w : World} {lo m b cc : Nat} {get2 : Nat → Nat → Cell} {arr : Array Value} (hr : SRep e N st loc a w) (hob : st.objs[id]? = some (.arr T k n get)) (hl : loc id = some (b, cc))
    (hh : w.heap[b]? = some (.cells arr T (0, 0))) (hfit : lo + m ≤ n) (hk : 0 < k) (cs : List Value) (hcs : cs.length = m * k) (hrep : ∀ p u, cs[p]? = some u → RepC (ctx e st.objs loc w) false (get2 (p / k) (p % k)) u) :
    lo * k + cs.length ≤ arr.size ∧ SRep e N ⟨st.slots, st.objs.set id (.arr T k n (rowG get get2 lo m))⟩ loc a (w.setRow b (arr.toList.take (lo * k) ++ cs ++ arr.toList.drop (lo * k + cs.length)).toArray) := by
  obtain ⟨arr', hh', hsz, hnc, hcm, hg⟩ := hr.heap.arr hob hl
  have : arr' = arr := by rw [hh] at hh'; cases hh'; rfl
  subst this
  have hle : lo * k + cs.length ≤ arr'.size := by
    rw [hcs, hsz, ← Nat.add_mul]
    exact Nat.mul_le_mul_right k (by omega)
  refine ⟨hle, ?_⟩
  obtain ⟨nw, hnw⟩ : ∃ nw : Array Value, nw = (arr'.toList.take (lo * k) ++ cs ++ arr'.toList.drop (lo * k + cs.length)).toArray := ⟨_, rfl⟩
  rw [← hnw]
  have hsize : nw.size = arr'.size := by
    rw [hnw]
    simp only [List.size_toArray, List.length_append, List.length_take, List.length_drop, Array.length_toList]
    omega
  have hout : ∀ p, p < lo * k ∨ lo * k + cs.length ≤ p → nw[p]? = arr'[p]? := by
    intro p hp
    rw [hnw]
    simp only [List.getElem?_toArray]
    rcases hp with hp | hp
    · rw [List.append_assoc, List.getElem?_append_left (by simp; omega), List.getElem?_take_of_lt hp]; simp
    · rw [List.getElem?_append_right (by simp; omega), List.getElem?_drop]
      simp only [List.length_append, List.length_take, Array.length_toList]
      rw [Nat.min_eq_left (by omega), show lo * k + cs.length + (p - (lo * k + cs.length)) = p by omega]
      simp
  have hin : ∀ q, q < cs.length → nw[lo * k + q]? = cs[q]? := by
    intro q hq
    rw [hnw]
    simp only [List.getElem?_toArray]
    rw [List.getElem?_append_left (by simp; omega), List.getElem?_append_right (by simp; omega)]
    simp only [List.length_take, Array.length_toList]
    rw [Nat.min_eq_left (by omega), show lo * k + q - lo * k = q by omega]
  refine hr.step (hr.heap.write (o' := .arr T k n (rowG get get2 lo m)) hob rfl hl (keep_setRow w b nw) (fun hle => ?_))
  rw [hl]
  refine ⟨nw, setRow_heap w b arr' nw T _ hh, hsize.trans hsz, hnc, hcm, fun i' hi' j' hj' => ?_⟩
  by_cases hii : lo ≤ i' ∧ i' < lo + m
  · rw [show rowG get get2 lo m i' j' = get2 (i' - lo) j' by simp [rowG, hii]]
    have hq : (i' - lo) * k + j' < cs.length := by rw [hcs]; exact idx_lt (by omega) hj'
    have hu := List.getElem?_eq_getElem hq
    refine ⟨_, ?_, RepC.mono hle _ _ _ (by have := hrep _ _ hu; rwa [idx_div hj', idx_mod hj'] at this)⟩
    rw [← hu, ← hin _ hq]
    congr 1
    have : i' * k = lo * k + (i' - lo) * k := by rw [← Nat.add_mul]; congr 1; omega
    omega
  · rw [show rowG get get2 lo m i' j' = get i' j' by simp only [rowG, if_neg hii]]
    obtain ⟨u, hu, hrep⟩ := hg i' hi' j' hj'
    refine ⟨u, ?_, RepC.mono hle _ _ _ hrep⟩
    rw [hout _ ?_]
    · exact hu
    · rcases Nat.lt_or_ge i' lo with h | h
      · left; exact idx_lt h hj'
      · right
        rw [hcs, ← Nat.add_mul]
        have : (lo + m) * k ≤ i' * k := Nat.mul_le_mul_right k (by omega)
        omega

/-! ### Arrays as values -/
def arrB (P : Program) (t e n s : Nat) : Bool :=
  match P.underlying t with
  | some (.array n' e') => Nat.beq n' n && Nat.beq e' e && (match P.info? e with
    | some i => Nat.beq i.size s
    | none => false)
  | _ => false

theorem arrB_out {P : Program} {t e n s : Nat} (h : arrB P t e n s = true) : P.underlying t = some (.array n e) ∧ ∃ i, P.info? e = some i ∧ i.size = s := by
  unfold arrB at h
  split at h
  · rename_i n' e' hu
    simp only [Bool.and_eq_true] at h
    obtain ⟨⟨h1, h2⟩, h3⟩ := h
    have h1 := Nat.eq_of_beq_eq_true h1
    have h2 := Nat.eq_of_beq_eq_true h2
    subst h1; subst h2
    refine ⟨hu, ?_⟩
    split at h3
    · rename_i i hi
      exact ⟨i, hi, Nat.eq_of_beq_eq_true h3⟩
    · cases h3
  · cases h

theorem q_buildArr {ps : List (Nat × AV)} {parts : Array (Nat × Operand)} {cs : List Cell} {zz : Value} {nn s : Nat} (ho : o.op = .build t parts) (hps : parts.toList.map (fun p => (p.1, ev p.2)) = ps)
    (har : arrB P t e' nn s = true) (hz : (P.info? t).map (·.zero) = some (some zz)) (hb : forceL (zz.cells.toList.map cellOf) (fillF (fun i => some (i * s, s)) ps) = some cs) : QOp P o ev objs (.a cs) := by
  rw [forceL_eq, fillF_eq] at hb
  refine q_build ho hps ?_
  obtain ⟨h1, i, h2, h3⟩ := arrB_out har
  unfold builtC
  cases hi : P.info? t with
  | none => rw [hi] at hz; cases hz
  | some it =>
    rw [hi] at hz
    have hzz : it.zero = some zz := by simpa using hz
    simp only [h1, h2, hzz, h3]
    exact hb

theorem q_index_agg {nn : Nat} {i : Int} (ho : o.op = .index t x y) (hx : ev x = .a (l.map fun a => c a 0)) (hy : ev y = .c (.int kl i)) (har : arrB P t e' nn 1 = true) (hty : tyB P e' false 1 = true) (hl : l.length = nn)
    (h0 : 0 ≤ i) (h1 : i < (l.length : Int)) : QOp P o ev objs (.c (c (l.getD i.toNat d0) 0)) := by
  refine QOp.of_run fun e loc w a hr hh => ?_
  have h2 := hh x (by simp [ho, Op.operands]); rw [hx] at h2
  have h3 := hh y (by simp [ho, Op.operands]); rw [hy] at h3
  have h3' : a.eval y = .int kl i := h3
  obtain ⟨vs, hv, hL⟩ := h2
  obtain ⟨g1, inf, g2, g3⟩ := arrB_out har
  have hi : i.toNat < l.length := by omega
  obtain ⟨u, hu, hrep⟩ := hL.get i.toNat (c (l.getD i.toNat d0) 0) (by
    rw [List.getElem?_map, List.getD_eq_getElem?_getD, List.getElem?_eq_getElem hi]; rfl)
  refine ⟨u, ?_, hrep⟩
  have hu' : vs[i.toNat]? = some u := by simpa using hu
  have hc : 0 ≤ i ∧ i < (nn : Int) := by omega
  simp only [execOp, ho, Sem.run_bind]
  rw [hv, h3']
  simp [Instr.index, asIntOf, run_underlying g1, hc, part, run_isAgg hty, sizeOf, run_typeInfo w g2, g3, hu', Result.andThen]

theorem q_indexAddr_ptr {nn s j : Nat} {kk : IntKind} {i : Int} (ho : o.op = .indexAddr t x ix) (hx : ev x = .c (.ptr id j)) (hix : ev ix = .c (.int kk i)) (har : arrB P t e' nn s = true) (h0 : 0 ≤ i) (h1 : i < (nn : Int)) :
    QOp P o ev objs (.c (.ptr id (j + i.toNat * s))) := by
  refine QOp.of_run fun e loc w a hr hh => ?_
  have h1' := hh x (by simp [ho, Op.operands]); rw [hx] at h1'
  have h2 := hh ix (by simp [ho, Op.operands]); rw [hix] at h2
  have h2' : a.eval ix = .int kk i := h2
  obtain ⟨_, hB, b, cc, hl, hv⟩ := h1'
  obtain ⟨g1, inf, g2, g3⟩ := arrB_out har
  have hal : P.arrayLen t = nn := by simp [Program.arrayLen, g1]
  have hel : P.elem t = e' := by simp [Program.elem, g1]
  have hrun := run_indexAt_array (P := P) (w := w) t ⟨b, j, none⟩ kk i (by rw [hal, hel]; exact g1)
  refine ⟨.pointer (some ⟨b, j + i.toNat * s, none⟩), ?_, rfl, hB, b, cc, hl, rfl⟩
  simp only [execOp, ho, hv, h2', Sem.run_bind]
  rw [hrun, hal, hel]
  have hc : 0 ≤ i ∧ i < (nn : Int) := ⟨h0, h1⟩
  simp [hc, sizeOf, run_typeInfo w g2, g3, Result.andThen, addr_add]

end
end Go.Proofs.Ytfbkimhoncfnmaa.E
