/- Tables of frozen rows, with one row of one's own. -/
import Derived.Test.YtfefnffdocmlmaaEngX
namespace Go.Proofs.Ytfefnffdocmlmaa.E
open Go Go.RowKit
set_option linter.unusedVariables false
section
variable {P : Program} {N : Fr} {o : Oper} {st : St} {ev : Operand → AV} {objs : List Ob} {t : TypeId} {x y : Operand}
theorem q_load_arh {F T n h : Nat} {get : Nat → Cell} {q : Cell} (ho : o.op = .load t x) (hx : ev x = .c (.aptr F 1 h 0)) (hob : objs[F]? = some (.arh T n get h q)) (hi : h < n) (ht : tyB P t false 1 = true) : QOp P o ev objs (.c q) := by
 refine QOp.of_run fun e loc w a hr hh => ?_
 have h1 := hh x (by simp [ho, Op.operands]); rw [hx] at h1
 obtain ⟨_, hB, b, c, hl, hv⟩ := h1
 have hl' : loc F = some (b, c) := hl
 have hrep := hr.rep F _ hob
 rw [hl'] at hrep
 obtain ⟨arr, hh2, h2, h3, h4, h5⟩ := hrep
 obtain ⟨y, hy, hra⟩ := h5 h hi
 refine ⟨y, ?_, hra.1 rfl⟩
 have hh3 : w.heap[b]? = some (.cells arr T (0, 0)) := hh2
 have hcell : w.cell? ⟨b, h * 1 + 0, none⟩ = some y := by rw [cell_of_heap hh3]; simpa using hy
 simp only [execOp, ho, hv, Instr.loadAt, Instr.sureAddr, Sem.run_bind, Sem.run_pure, Result.andThen_ok, run_loadVar1 ht w _ _ hcell]
theorem e_store_arh {F T n h : Nat} {g : Nat → Nat → Cell} {q' : Cell} (ho : o.op = .store t x y) (hd : o.dst = none) (hx : evs st.slots x = .c (.aptr F 1 h 0)) (hob : st.objs[F]? = some (.arr T 1 n g)) (hy : evs st.slots y = .c q')
  (hi : h < n) (ht : tyB P t false 1 = true) (h1 : q'.one = true) : EOp P N o st ⟨st.slots, st.objs.set F (.arh T n (fun i => g i 0) h q')⟩ := by
 intro e loc a w hr K Q hK
 have h2 := hr.eval x; rw [hx] at h2
 have h3 := hr.eval y; rw [hy] at h3
 obtain ⟨_, _, b, c', hloc, hv⟩ := h2
 have hloc' : loc F = some (b, c') := hloc
 obtain ⟨arr, hh, hs, hnc, hcm, hg⟩ := hr.heap.arr hob hloc'
 have h3' : RepC (ctx e st.objs loc w) true q' (a.eval y) := h3
 obtain ⟨hone, hcells⟩ := RepC.one h3' h1
 have hrun : (execOp a.eval o).run P w = .ok .skip (w.setRow b (arr.toList.take (h * 1 + 0) ++ (a.eval y).cells.toList ++ arr.toList.drop (h * 1 + 0 + (a.eval y).cells.toList.length)).toArray) := by
  have := run_storeVar' ht w b (h * 1 + 0) (a.eval y) T arr hh (by rw [hcells]; rfl) (by omega) (by rw [hcells]; intro u hu; simp at hu; subst hu; exact hone)
  simp only [execOp, ho, hv, Instr.storeAt, Instr.sureAddr, Sem.run_bind, Sem.run_pure, Result.andThen_ok, this]
 obtain ⟨nw, hnw⟩ : ∃ nw : Array Value, nw = (arr.toList.take (h * 1 + 0) ++ (a.eval y).cells.toList ++ arr.toList.drop (h * 1 + 0 + (a.eval y).cells.toList.length)).toArray := ⟨_, rfl⟩
 rw [← hnw] at hrun
 have hget : ∀ i, nw[i]? = if i = h then some (a.eval y) else arr[i]? := by
  intro i
  have e0 : (a.eval y).cells.toList = [a.eval y] := by rw [hcells]
  rw [hnw, e0]
  simp only [List.getElem?_toArray, Nat.mul_one, Nat.add_zero, List.length_cons, List.length_nil]
  have hlt : h < arr.size := by omega
  by_cases hih : i = h
  ·subst hih
   rw [if_pos rfl, List.append_assoc, List.getElem?_append_right (by rw [List.length_take]; exact Nat.min_le_left _ _), List.getElem?_append_left (by simp; omega)]
   simp [Nat.min_eq_left (Nat.le_of_lt hlt)]
  ·rw [if_neg hih]
   rcases Nat.lt_or_ge i h with hlt2 | hge
   ·rw [List.append_assoc, List.getElem?_append_left (by simp; omega), List.getElem?_take_of_lt hlt2]; simp
   ·rw [List.getElem?_append_right (by simp; omega), List.getElem?_drop]
    simp only [List.length_append, List.length_take, List.length_cons, List.length_nil, Array.length_toList]
    rw [Nat.min_eq_left (by omega), show h + (0 + 1) + (i - (h + (0 + 1))) = i by omega]
    simp
 have hsize : nw.size = arr.size := by
  rw [hnw]
  have e0 : (a.eval y).cells.toList = [a.eval y] := by rw [hcells]
  rw [e0]
  simp only [List.size_toArray, List.length_append, List.length_take, List.length_drop, Array.length_toList, List.length_cons, List.length_nil]
  omega
 unfold Oper.wp
 rw [hrun]
 have hstep := hr.step (hr.heap.write (o' := .arh T n (fun i => g i 0) h q') hob rfl hloc' (keep_setRow w b nw) (fun hle => by
  rw [hloc']
  refine ⟨nw, setRow_heap w b arr nw T _ hh, by omega, hnc, hcm, fun i hi' => ?_⟩
  obtain ⟨y', hy', hra⟩ := hg i hi' 0 (by omega)
  rw [Nat.mul_one, Nat.add_zero] at hy'
  rw [hget i]
  by_cases hih : i = h
  ·subst hih
   rw [if_pos rfl]
   exact ⟨_, rfl, fun _ => RepC.mono hle _ _ _ h3', fun hne => absurd rfl hne⟩
  ·rw [if_neg hih]
   exact ⟨y', hy', fun he => absurd he hih, fun _ => RepC.mono hle _ _ _ hra⟩))
 rw [Oper.upon_skip, hd]
 exact hK _ _ loc hstep
end
theorem set_getD {α : Type} (l : List α) (i j : Nat) (x d : α) (h : i < l.length) : (l.set i x).getD j d = if j = i then x else l.getD j d := by
 rw [List.getD_eq_getElem?_getD, List.getElem?_set]
 by_cases hj : j = i
 ·subst hj; rw [if_pos rfl, if_pos h, if_pos rfl]; rfl
 ·rw [if_neg (Ne.symm hj), if_neg hj, List.getD_eq_getElem?_getD]
def aH (T : Nat) (l : List (List Int)) (h : Nat) (c : Cell) : Ob := .arh T l.length (fun i => gL (cVec 1 (cInt .i64) 0) [] l i 0) h c
theorem csH {old : List Ob} {ids : List Nat} {id T h jd Tr : Nat} {l : List (List Int)} {row : List Int} (hob : old[id]? = some (aH T l h (.own jd row.length))) (hobj : old[jd]? = some (aI Tr row)) (h1 : id ∉ ids) (h2 : jd ∉ ids) (hh : h < l.length) :
  CSub old ids (.own id l.length) (vR (l.set h row)) := by
 refine .inr (.inr (.inr (.inr (.inr (.inr ⟨id, T, l.length, fun i => gL (cVec 1 (cInt .i64) 0) [] l i 0, h, jd, row.length, Tr, 1, row.length, gL (cInt .i64) 0 row, l.length, gL (cVec 1 (cInt .i64) 0) [] (l.set h row), gL (cInt .i64) 0 row, rfl, ?_, hob, Nat.le_refl _, hobj, Nat.le_refl _, ?_, fun _ _ _ _ => rfl, fun i hi hne => ?_, h1, h2⟩)))))
 ·unfold vR
  rw [List.length_set]
 ·show cVec 1 (cInt .i64) 0 ((l.set h row).getD h []) 0 = _
  rw [set_getD l h h row [] hh, if_pos rfl]
  rfl
 ·show cVec 1 (cInt .i64) 0 ((l.set h row).getD i []) 0 = cVec 1 (cInt .i64) 0 (l.getD i []) 0
  rw [set_getD l h i row [] hh, if_neg hne]
end Go.Proofs.Ytfefnffdocmlmaa.E
