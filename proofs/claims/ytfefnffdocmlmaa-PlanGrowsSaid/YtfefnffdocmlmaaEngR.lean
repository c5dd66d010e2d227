/- Parts of arrays of one's own; copying into them; clearing them. -/
import Derived.Test.YtfefnffdocmlmaaEngQ
import Derived.Laws.CopyRow
import Derived.Laws.Entries
namespace Go.Proofs.Ytfefnffdocmlmaa.E
open Go Go.RowKit
set_option linter.unusedVariables false
section
variable {P : Program} {N : Fr} {o : Oper} {st : St} {x y z ix : Operand} {t z' : TypeId} {d : Nat} {ev : Operand → AV} {objs : List Ob} {α : Type} {c : α → Nat → Cell} {d0 : α} {l : List α} {e' k bytes id n T : Nat} {kl kh : IntKind} {lo hi : Int} {get : Nat → Nat → Cell}
theorem sub_val {X : Ctx} {tt : Bool} {id lo n k : Nat} {v : Value} (h : RepC X tt (.sub id lo n k) v) : ∃ ad cap, v = .slice ad n cap ∧ n ≤ cap ∧ (0 < n → ∃ b cc, X.loc id = some (b, cc) ∧ lo + n ≤ cc ∧ ad = some ⟨b, lo * k, none⟩) := by
 obtain ⟨_, _, hm⟩ := h
 cases hl : X.loc id with
 | none =>
  rw [hl] at hm
  obtain ⟨rfl, rfl, _⟩ := hm
  exact ⟨none, 0, rfl, Nat.le_refl _, fun h => absurd h (Nat.lt_irrefl 0)⟩
 | some bc =>
  obtain ⟨b, cc⟩ := bc
  rw [hl] at hm
  have hm2 := hm.2
  have hm1 := hm.1
  unfold sliced at hm2
  rw [show lo + n - lo = n by omega] at hm2
  refine ⟨_, _, hm2, by omega, fun h0 => ⟨b, cc, rfl, hm1, ?_⟩⟩
  rw [if_neg (by omega)]
  simp [addr_add]
def IsDest (id lo n k : Nat) (v : Cell) : Prop := v = .sub id lo n k ∨ (lo = 0 ∧ v = .own id n)
theorem dest_val {X : Ctx} {tt : Bool} {id lo n k : Nat} {v : Cell} {u : Value} (hd : IsDest id lo n k v) (h : RepC X tt v u) : ∃ ad cap, u = .slice ad n cap ∧ (0 < n → ∃ b cc, X.loc id = some (b, cc) ∧ ad = some ⟨b, lo * k, none⟩) := by
 rcases hd with rfl | ⟨rfl, rfl⟩
 ·obtain ⟨ad, cap, hv, _, hp⟩ := sub_val h
  exact ⟨ad, cap, hv, fun h0 => by obtain ⟨b, cc, h1, _, h2⟩ := hp h0; exact ⟨b, cc, h1, h2⟩⟩
 ·obtain ⟨_, _, hm⟩ := h
  cases hl : X.loc id with
  | none =>
   rw [hl] at hm
   obtain ⟨rfl, rfl⟩ := hm
   exact ⟨none, 0, rfl, fun h => absurd h (Nat.lt_irrefl 0)⟩
  | some bc =>
   obtain ⟨b, cc⟩ := bc
   rw [hl] at hm
   exact ⟨_, _, hm, fun _ => ⟨b, cc, rfl, by rw [Nat.zero_mul]⟩⟩
def rowG (get get2 : Nat → Nat → Cell) (lo m i j : Nat) : Cell := if lo ≤ i ∧ i < lo + m then get2 (i - lo) j else get i j
theorem SRep.row {e : Env} {loc : Loc} {a : Act} {w : World} {lo m b cc : Nat} {get2 : Nat → Nat → Cell} {arr : Array Value} (hr : SRep e N st loc a w) (hob : st.objs[id]? = some (.arr T k n get)) (hl : loc id = some (b, cc))
  (hh : w.heap[b]? = some (.cells arr T (0, 0))) (hfit : lo + m ≤ n) (hk : 0 < k) (cs : List Value) (hcs : cs.length = m * k) (hrep : ∀ p u, cs[p]? = some u → RepC (ctx e st.objs loc w) false (get2 (p / k) (p % k)) u) :
  lo * k + cs.length ≤ arr.size ∧ SRep e N ⟨st.slots, st.objs.set id (.arr T k n (rowG get get2 lo m))⟩ loc a (w.setRow b (arr.toList.take (lo * k) ++ cs ++ arr.toList.drop (lo * k + cs.length)).toArray) := by
 obtain ⟨arr', hh', hsz, hnc, hcm, hg⟩ := hr.heap.arr hob hl
 have : arr' = arr := by rw [hh] at hh'; cases hh'; rfl
 subst this
 have hle : lo * k + cs.length ≤ arr'.size := by
  rw [hcs, hsz, ← Nat.add_mul]
  exact Nat.mul_le_mul_right k (by omega)
 refine ⟨hle, ?_⟩
 obtain ⟨nw, hnw⟩ : ∃ nw : Array Value, nw = (arr'.toList.take (lo * k) ++ cs ++ arr'.toList.drop (lo * k + cs.length)).toArray := ⟨_, rfl⟩
 rw [← hnw]
 have hsize : nw.size = arr'.size := by
  rw [hnw]
  simp only [List.size_toArray, List.length_append, List.length_take, List.length_drop, Array.length_toList]
  omega
 have hout : ∀ p, p < lo * k ∨ lo * k + cs.length ≤ p → nw[p]? = arr'[p]? := by
  intro p hp
  rw [hnw]
  simp only [List.getElem?_toArray]
  rcases hp with hp | hp
  ·rw [List.append_assoc, List.getElem?_append_left (by simp; omega), List.getElem?_take_of_lt hp]; simp
  ·rw [List.getElem?_append_right (by simp; omega), List.getElem?_drop]
   simp only [List.length_append, List.length_take, Array.length_toList]
   rw [Nat.min_eq_left (by omega), show lo * k + cs.length + (p - (lo * k + cs.length)) = p by omega]
   simp
 have hin : ∀ q, q < cs.length → nw[lo * k + q]? = cs[q]? := by
  intro q hq
  rw [hnw]
  simp only [List.getElem?_toArray]
  rw [List.getElem?_append_left (by simp; omega), List.getElem?_append_right (by simp; omega)]
  simp only [List.length_take, Array.length_toList]
  rw [Nat.min_eq_left (by omega), show lo * k + q - lo * k = q by omega]
 refine hr.step (hr.heap.write (o' := .arr T k n (rowG get get2 lo m)) hob rfl hl (keep_setRow w b nw) (fun hle => ?_))
 rw [hl]
 refine ⟨nw, setRow_heap w b arr' nw T _ hh, hsize.trans hsz, hnc, hcm, fun i' hi' j' hj' => ?_⟩
 by_cases hii : lo ≤ i' ∧ i' < lo + m
 ·rw [show rowG get get2 lo m i' j' = get2 (i' - lo) j' by simp [rowG, hii]]
  have hq : (i' - lo) * k + j' < cs.length := by rw [hcs]; exact idx_lt (by omega) hj'
  have hu := List.getElem?_eq_getElem hq
  refine ⟨_, ?_, RepC.mono hle _ _ _ (by have := hrep _ _ hu; rwa [idx_div hj', idx_mod hj'] at this)⟩
  rw [← hu, ← hin _ hq]
  congr 1
  have : i' * k = lo * k + (i' - lo) * k := by rw [← Nat.add_mul]; congr 1; omega
  omega
 ·rw [show rowG get get2 lo m i' j' = get i' j' by simp only [rowG, if_neg hii]]
  obtain ⟨u, hu, hrep⟩ := hg i' hi' j' hj'
  refine ⟨u, ?_, RepC.mono hle _ _ _ hrep⟩
  rw [hout _ ?_]
  ·exact hu
  ·rcases Nat.lt_or_ge i' lo with h | h
   ·left; exact idx_lt h hj'
   ·right
    rw [hcs, ← Nat.add_mul]
    have : (lo + m) * k ≤ i' * k := Nat.mul_le_mul_right k (by omega)
    omega
theorem vec_cells {X : Ctx} {tt : Bool} {n k m : Nat} {get : Nat → Nat → Cell} {v : Value} (h : RepC X tt (.vec n k get) v) (hm : m ≤ n) (hm0 : 0 < m) (hk : 0 < k) :
  ∃ b off cap, v = .slice (some ⟨b, off, none⟩) n cap ∧ ∃ news : List Value, news.length = m * k ∧ ∀ p u, news[p]? = some u → X.w.cell? ⟨b, off + p, none⟩ = some u ∧ RepC X false (get (p / k) (p % k)) u := by
 obtain ⟨ad, cap, hv, hnc, hp⟩ := h
 obtain ⟨b, off, rfl, hO, hcell⟩ := hp (by omega) hk
 obtain ⟨news, hn1, hn2⟩ := pick_list (Q := fun p u => X.w.cell? ⟨b, off + p, none⟩ = some u ∧ RepC X false (get (p / k) (p % k)) u) (m * k) (fun p hp => by
  have hq : p / k < m := Nat.div_lt_of_lt_mul (by rw [Nat.mul_comm]; exact hp)
  obtain ⟨u, hu, hrep⟩ := hcell (p / k) (by omega) (p % k) (Nat.mod_lt _ hk)
  have e1 : p / k * k + p % k = p := by rw [Nat.mul_comm]; exact Nat.div_add_mod p k
  refine ⟨u, ?_, hrep⟩
  rw [← hu]
  show _ = X.w.cell? ⟨b, off + p / k * k + p % k, none⟩
  rw [Nat.add_assoc, e1])
 exact ⟨b, off, cap, hv, news, hn1, hn2⟩
def copyL {α : Type} (l : List α) (lo n : Nat) (s : List α) : List α := l.take lo ++ s.take n ++ l.drop (lo + min n s.length)
theorem copyL_len {α : Type} {l s : List α} {lo n : Nat} (h : lo + n ≤ l.length) : (copyL l lo n s).length = l.length := by
 simp only [copyL, List.length_append, List.length_take, List.length_drop]; omega
theorem copyL_get {α : Type} {l s : List α} {lo n : Nat} (h : lo + n ≤ l.length) (i : Nat) (hi : i < l.length) : (copyL l lo n s)[i]? = if lo ≤ i ∧ i < lo + min n s.length then s[i - lo]? else l[i]? := by
 unfold copyL
 by_cases h1 : i < lo
 ·rw [if_neg (by omega), List.append_assoc, List.getElem?_append_left (by simp; omega), List.getElem?_take_of_lt h1]
 ·by_cases h2 : i < lo + min n s.length
  ·rw [if_pos (by omega), List.getElem?_append_left (by simp; omega), List.getElem?_append_right (by simp; omega)]
   simp only [List.length_take]
   rw [Nat.min_eq_left (by omega), List.getElem?_take_of_lt (by omega)]
  ·rw [if_neg (by omega), List.getElem?_append_right (by simp; omega), List.getElem?_drop]
   simp only [List.length_append, List.length_take]
   congr 1
   omega
theorem row_list (hob : st.objs[id]? = some (.arr T k l.length (gL c d0 l))) {lo m : Nat} {s : List α} (h : lo + m ≤ l.length) :
  Sub N ⟨st.slots, st.objs.set id (.arr T k l.length (rowG (gL c d0 l) (gL c d0 s) lo (min m s.length)))⟩ ⟨st.slots, st.objs.set id (.arr T k (copyL l lo m s).length (gL c d0 (copyL l lo m s)))⟩ := by
 have hid : id < st.objs.length := (List.getElem?_eq_some_iff.1 hob).1
 rw [copyL_len h]
 have := Sub.reArr (N := N) (st := ⟨st.slots, st.objs.set id (.arr T k l.length (rowG (gL c d0 l) (gL c d0 s) lo (min m s.length)))⟩) (id := id) (get' := gL c d0 (copyL l lo m s)) (by simp only [List.getElem?_set, hid, if_true]; rfl)
  (fun i' hi' j' hj' => by
   unfold rowG gL
   rw [List.getD_eq_getElem?_getD (l := copyL l lo m s), copyL_get h i' hi']
   by_cases hii : lo ≤ i' ∧ i' < lo + min m s.length
   ·rw [if_pos hii, if_pos hii, List.getD_eq_getElem?_getD]
   ·rw [if_neg hii, if_neg hii, List.getD_eq_getElem?_getD])
 rwa [List.set_set] at this
theorem row_none (hob : st.objs[id]? = some (.arr T k l.length (gL c d0 l))) {lo m : Nat} {s : List α} (h : lo + m ≤ l.length) (h0 : min m s.length = 0) :
  st = ⟨st.slots, st.objs.set id (.arr T k (copyL l lo m s).length (gL c d0 (copyL l lo m s)))⟩ := by
 have hid : id < st.objs.length := (List.getElem?_eq_some_iff.1 hob).1
 have e1 : copyL l lo m s = l := by
  have h1 : s.take m = [] := by
   rw [← List.length_eq_zero_iff, List.length_take]; exact h0
  unfold copyL
  rw [h1, h0, Nat.add_zero, List.append_nil, List.take_append_drop]
 rw [e1]
 have h2 : st.objs.set id (.arr T k l.length (gL c d0 l)) = st.objs := by
  apply List.ext_getElem?
  intro i
  rw [List.getElem?_set]
  by_cases hi : id = i
  ·subst hi; rw [if_pos rfl, if_pos hid, hob]
  ·rw [if_neg hi]
 rw [h2]
theorem e_copyL {lo n m : Nat} {s : List α} {v c2 : Cell} (ho : o.op = .call { callee := .builtin .copy, args := #[x, y], argTypes := #[t, z'] }) (hd : o.dst.all (fun d => Nat.blt d N.N) = true)
  (hx : evs st.slots x = .c v) (hv : IsDest id lo n k v) (hob : st.objs[id]? = some (.arr T k l.length (gL c d0 l))) (hy : evs st.slots y = .c c2) (hc2 : c2 = .vec s.length k (gL c d0 s) ∨ (c2 = .raw (.slice none 0 0) ∧ s = []) ∨ ∃ id2 T2, c2 = .own id2 s.length ∧ st.objs[id2]? = some (.arr T2 k s.length (gL c d0 s)))
  (ht : slB P t e' k bytes = true) (hk : Nat.blt 0 k = true) (h1 : ∀ a j, j < k → (c a j).one = true) (hfit : lo + n ≤ l.length) (hm : m = min s.length n) :
  EOp P N o st (St.put ⟨st.slots, st.objs.set id (.arr T k (copyL l lo n s).length (gL c d0 (copyL l lo n s)))⟩ o.dst (.c (.int .i64 (m : Int)))) := by
 have hfit2 : lo + m ≤ l.length := by omega
 have hmn : min n s.length = m := by omega
 intro e loc a w hr K Q hK
 have hk : 0 < k := by simpa [Nat.blt_eq] using hk
 obtain ⟨i, g1, g2, g3, g4⟩ := slB_out ht
 have hd' : ∀ q, o.dst = some q → q < N.N := by
  intro q hq
  rw [hq] at hd
  simpa [Nat.blt_eq] using hd
 have h2 := hr.eval x; rw [hx] at h2
 have h3 := hr.eval y; rw [hy] at h3
 obtain ⟨ad, cap, hxv, hxp⟩ := dest_val hv h2
 -- the source
 obtain ⟨src, c3, hsv, hsrc⟩ : ∃ src c3, a.eval y = .slice src s.length c3 ∧ (0 < m → ∃ b2 off, src = some ⟨b2, off, none⟩ ∧ ∃ news : List Value, news.length = m * k ∧ (∀ p u, news[p]? = some u → w.cell? ⟨b2, off + p, none⟩ = some u ∧ RepC (ctx e st.objs loc w) false (gL c d0 s (p / k) (p % k)) u)) := by
  rcases hc2 with rfl | ⟨rfl, rfl⟩ | ⟨id2, T2, rfl, hob2⟩
  ·have h3' := h3
   obtain ⟨ad2, cap2, hv2, _, _⟩ := h3'
   refine ⟨ad2, cap2, hv2, fun hm0 => ?_⟩
   obtain ⟨b2, off, cap3, hv3, news, hn1, hn2⟩ := vec_cells (X := ctx e st.objs loc w) (tt := true) (m := m) h3 (by omega) hm0 hk
   rw [hv2] at hv3
   cases hv3
   exact ⟨b2, off, rfl, news, hn1, hn2⟩
  ·exact ⟨none, 0, h3, fun h => by simp at hm; omega⟩
  ·obtain ⟨_, _, hm2⟩ := h3
   cases hl2 : loc id2 with
   | none =>
    have : (ctx e st.objs loc w).loc id2 = none := hl2
    rw [this] at hm2
    obtain ⟨hv, h0⟩ := hm2
    refine ⟨none, 0, by rw [hv, h0], fun h => by omega⟩
   | some bc =>
    obtain ⟨b2, c2⟩ := bc
    have : (ctx e st.objs loc w).loc id2 = some (b2, c2) := hl2
    rw [this] at hm2
    obtain ⟨arr2, hh2, hsz2, hnc2, _, hg2⟩ := hr.heap.arr hob2 hl2
    refine ⟨some ⟨b2, 0, none⟩, c2, hm2, fun hm0 => ⟨b2, 0, rfl, ?_⟩⟩
    obtain ⟨news, hn1, hn2⟩ := pick_list (Q := fun p u => w.cell? ⟨b2, 0 + p, none⟩ = some u ∧ RepC (ctx e st.objs loc w) false (gL c d0 s (p / k) (p % k)) u) (m * k) (fun p hp => by
     have hq : p / k < m := Nat.div_lt_of_lt_mul (by rw [Nat.mul_comm]; exact hp)
     obtain ⟨u, hu, hrep⟩ := hg2 (p / k) (by omega) (p % k) (Nat.mod_lt _ hk)
     have e1 : p / k * k + p % k = p := by rw [Nat.mul_comm]; exact Nat.div_add_mod p k
     rw [e1] at hu
     exact ⟨u, by rw [Nat.zero_add, cell_of_heap hh2]; exact hu, hrep⟩)
    exact ⟨news, hn1, hn2⟩
 have hmin : Nat.min s.length n = m := hm.symm
 have hfin : ∀ (w' : World) loc', (Builtin.copy_ #[t, z'] o.type #[.slice ad n cap, .slice src s.length c3]).run P w = .ok (goInt m) w' → SRep e N ⟨st.slots, st.objs.set id (.arr T k (copyL l lo n s).length (gL c d0 (copyL l lo n s)))⟩ loc' a w' → o.wp P a w K Q := by
  intro w' loc' hrun hr'
  unfold Oper.wp
  have : (execOp a.eval o).run P w = .ok (.value (goInt m)) w' := by
   simp only [execOp, ho, resolve, invoke, builtin, Sem.run_bind, Sem.run_pure, Result.andThen_ok, List.map_toArray, List.map_cons, List.map_nil, hxv, hsv, hrun]
  rw [this, Oper.upon_value]
  exact hK _ _ _ (hr'.put o.dst hd' (by simp [goInt, RepA, RepC]))
 by_cases hm0 : m = 0
 ·refine hfin w loc ?_ ?_
  ·subst hm0
   cases ad <;> cases src <;> simp [Builtin.copy_, run_underlying g1, Builtin.lenOf, Builtin.firstCells, sizeOf, run_typeInfo w g2, hmin, storeCells, loadCells, loadCellsFrom]
  ·have := row_none hob (s := s) (lo := lo) (m := n) hfit (hmn.trans hm0)
   rw [← this]; exact hr
 ·obtain ⟨b2, off, rfl, news, hn1, hn2⟩ := hsrc (by omega)
  obtain ⟨b, cc, hl, rfl⟩ := hxp (by omega)
  have hl' : loc id = some (b, cc) := hl
  obtain ⟨arr, hh, hsz, hnc, hcm, hg⟩ := hr.heap.arr hob hl'
  obtain ⟨hle, hrow⟩ := hr.row (m := m) (get2 := gL c d0 s) hob hl' hh hfit2 hk news hn1 (fun p u hp => (hn2 p u hp).2)
  have hone : ∀ u ∈ news, u.oneCell' = true := by
   intro u hu
   obtain ⟨p, hp⟩ := List.getElem?_of_mem hu
   have hlt : p < m * k := by rw [← hn1]; exact (List.getElem?_eq_some_iff.1 hp).1
   exact (RepC.one (hn2 p u hp).2 (h1 _ _ (Nat.mod_lt _ hk))).1
  have hld := run_loadCells_list (P := P) w ⟨b2, off, none⟩ news (fun j v hv => by rw [addr_add]; exact (hn2 j v hv).1)
  have hst := run_storeCells_at P b (lo * k) T news 0 arr w hh (by simpa using hle) hone
  have hs := row_list (N := N) hob (s := s) (lo := lo) (m := n) hfit
  rw [hmn] at hs
  obtain ⟨loc2, hr2⟩ := hs e loc a _ hrow
  refine hfin _ loc2 ?_ hr2
  simp only [Nat.add_zero] at hst
  rw [hn1] at hld
  simp [Builtin.copy_, run_underlying g1, Builtin.lenOf, Builtin.firstCells, sizeOf, run_typeInfo w g2, hmin, g3, hld, hst]
end
end Go.Proofs.Ytfefnffdocmlmaa.E
