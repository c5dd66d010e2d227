/- Arrays of the call's own; literals; append. -/
import Derived.Test.YtoncfkdgddfnlaaEngE
import Derived.Great.BuildSlice
namespace Go.Proofs.Ytoncfkdgddfnlaa.E
open Go Go.RowKit
set_option linter.unusedVariables false
theorem idx_div {i j k : Nat} (hj : j < k) : (i * k + j) / k = i := by
 rw [Nat.mul_comm, Nat.mul_add_div (by omega), Nat.div_eq_of_lt hj, Nat.add_zero]
theorem idx_mod {i j k : Nat} (hj : j < k) : (i * k + j) % k = j := by
 rw [Nat.mul_comm, Nat.mul_add_mod, Nat.mod_eq_of_lt hj]
theorem idx_lt {i n j k : Nat} (hi : i < n) (hj : j < k) : i * k + j < n * k := by
 have : (i + 1) * k ≤ n * k := Nat.mul_le_mul_right k hi
 rw [Nat.add_mul] at this
 omega
theorem idx_apart {i i' j j' m k : Nat} (hj : j + m ≤ k) (hj' : j' < k) (hne : i' ≠ i) : i' * k + j' < i * k + j ∨ i * k + j + m ≤ i' * k + j' := by
 rcases Nat.lt_or_gt_of_ne hne with h | h
 ·left
  have : (i' + 1) * k ≤ i * k := Nat.mul_le_mul_right k h
  rw [Nat.add_mul] at this
  omega
 ·right
  have : (i + 1) * k ≤ i' * k := Nat.mul_le_mul_right k h
  rw [Nat.add_mul] at this
  omega
theorem RepA.cells {x : Ctx} {v : AV} {u : Value} (h : RepA x v u) (h1 : v.cells.all Cell.one = true) (h0 : v.cells.isEmpty = false) : RepL x true v.cells u.cells.toList := by
 cases v with
 | c c =>
  simp only [AV.cells, List.all_cons, List.all_nil, Bool.and_true] at h1
  have hv' : RepC x true c u := h
  rw [(RepC.one hv' h1).2]
  exact ⟨hv', trivial⟩
 | a l =>
  obtain ⟨vs, hvs, hL⟩ := h
  rw [hvs]
  exact hL
 | t l => simp [AV.cells] at h0
section
variable {P : Program} {N : Fr} {o : Oper} {st : St} {x y : Operand} {t : TypeId} {d : Nat} {ev : Operand → AV} {objs : List Ob}
def stG (get : Nat → Nat → Cell) (i j m : Nat) (cs : List Cell) (i' j' : Nat) : Cell :=
 if i' = i then (if j ≤ j' ∧ j' < j + m then cs.getD (j' - j) .any else get i' j') else get i' j'
theorem e_store_arr {id T k n i j m : Nat} {get : Nat → Nat → Cell} {v : AV} {agg : Bool} (ho : o.op = .store t x y) (hd : o.dst = none) (hx : evs st.slots x = .c (.aptr id k i j)) (hob : st.objs[id]? = some (.arr T k n get)) (hy : evs st.slots y = v)
  (hi : i < n) (ht : tyB P t agg m = true) (hm : v.cells.length = m) (h0 : v.cells.isEmpty = false) (h1 : v.cells.all Cell.one = true) (hp : v.cells.all Cell.pers = true) (hfit : Nat.ble (j + m) k = true) :
  EOp P N o st ⟨st.slots, st.objs.set id (.arr T k n (stG get i j m v.cells))⟩ := by
 intro e loc a w hr K Q hK
 have hfit := Nat.le_of_ble_eq_true hfit
 have h2 := hr.eval x; rw [hx] at h2
 have h3 := hr.eval y; rw [hy] at h3
 obtain ⟨_, _, b, c', hloc, hv⟩ := h2
 have hloc' : loc id = some (b, c') := hloc
 obtain ⟨arr, hh, hs, hnc, hcm, hg⟩ := hr.heap.arr hob hloc'
 have hcells := h3.cells h1 h0
 have hlen := hcells.length
 have hsz : (a.eval y).cells.size = m := by rw [← Array.length_toList, ← hlen, hm]
 have hpos : 0 < m := by
  rw [← hm]
  cases hq : v.cells with
  | nil => rw [hq] at h0; cases h0
  | cons _ _ => simp
 have hfit2 : i * k + j + m ≤ arr.size := by
  rw [hs]
  have h4 : (i + 1) * k ≤ c' * k := Nat.mul_le_mul_right k (by omega)
  rw [Nat.add_mul] at h4
  omega
 have hrun : (execOp a.eval o).run P w = .ok .skip (w.setRow b (arr.toList.take (i * k + j) ++ (a.eval y).cells.toList ++ arr.toList.drop (i * k + j + (a.eval y).cells.toList.length)).toArray) := by
  have := run_storeVar' ht w b (i * k + j) (a.eval y) T arr hh hsz hfit2 (RepL.one hcells h1)
  simp only [execOp, ho, hv, Instr.storeAt, Instr.sureAddr, Sem.run_bind, Sem.run_pure, Result.andThen_ok, this]
 obtain ⟨nw, hnw⟩ : ∃ nw : Array Value, nw = (arr.toList.take (i * k + j) ++ (a.eval y).cells.toList ++ arr.toList.drop (i * k + j + (a.eval y).cells.toList.length)).toArray := ⟨_, rfl⟩
 rw [← hnw] at hrun
 have hl2 : (a.eval y).cells.toList.length = m := by rw [← hlen, hm]
 have hsize : nw.size = arr.size := by
  rw [hnw]
  simp only [List.size_toArray, List.length_append, List.length_take, List.length_drop, hl2, Array.length_toList]
  omega
 have hout : ∀ p, p < i * k + j ∨ i * k + j + m ≤ p → nw[p]? = arr[p]? := by
  intro p hp
  rw [hnw]
  simp only [List.getElem?_toArray]
  rcases hp with hp | hp
  ·rw [List.append_assoc, List.getElem?_append_left (by simp; omega), List.getElem?_take_of_lt hp]; simp
  ·rw [List.getElem?_append_right (by simp [hl2]; omega), List.getElem?_drop]
   simp only [List.length_append, List.length_take, hl2, Array.length_toList]
   rw [Nat.min_eq_left (by omega), show i * k + j + m + (p - (i * k + j + m)) = p by omega]
   simp
 have hin : ∀ q, q < m → nw[i * k + j + q]? = (a.eval y).cells.toList[q]? := by
  intro q hq
  rw [hnw]
  simp only [List.getElem?_toArray]
  rw [List.getElem?_append_left (by simp [hl2]; omega), List.getElem?_append_right (by simp; omega)]
  simp only [List.length_take, Array.length_toList]
  rw [Nat.min_eq_left (by omega), show i * k + j + q - (i * k + j) = q by omega]
 unfold Oper.wp
 rw [hrun]
 have hstep := hr.step (hr.heap.write (o' := .arr T k n (stG get i j m v.cells)) hob rfl hloc' (keep_setRow w b nw) (fun hle => by
  rw [hloc']
  refine ⟨nw, setRow_heap w b arr nw T _ hh, hsize.trans hs, hnc, hcm, fun i' hi' j' hj' => ?_⟩
  by_cases hii : i' = i
  ·subst hii
   by_cases hjj : j ≤ j' ∧ j' < j + m
   ·rw [show stG get i' j m v.cells i' j' = v.cells.getD (j' - j) .any by simp [stG, hjj]]
    have hq : j' - j < v.cells.length := by omega
    obtain ⟨u, hu, hrep⟩ := hcells.get (j' - j) (v.cells.getD (j' - j) .any) (by rw [List.getD_eq_getElem?_getD, List.getElem?_eq_getElem hq]; rfl)
    refine ⟨u, ?_, ?_⟩
    ·rw [show i' * k + j' = i' * k + j + (j' - j) by omega, hin _ (by omega)]; exact hu
    ·refine RepC.down (RepC.mono hle _ _ _ hrep) ?_
     have hmem : v.cells.getD (j' - j) .any ∈ v.cells := by
      rw [List.getD_eq_getElem?_getD, List.getElem?_eq_getElem hq]; exact List.getElem_mem _
     exact List.all_eq_true.1 hp _ hmem
   ·rw [show stG get i' j m v.cells i' j' = get i' j' by simp [stG, hjj]]
    obtain ⟨u, hu, hrep⟩ := hg i' hi' j' hj'
    exact ⟨u, by rw [hout _ (by omega)]; exact hu, RepC.mono hle _ _ _ hrep⟩
  ·rw [show stG get i j m v.cells i' j' = get i' j' by simp [stG, hii]]
   obtain ⟨u, hu, hrep⟩ := hg i' hi' j' hj'
   exact ⟨u, by rw [hout _ (idx_apart hfit hj' hii)]; exact hu, RepC.mono hle _ _ _ hrep⟩))
 rw [Oper.upon_skip, hd]
 exact hK _ _ loc hstep
theorem own_new {e : Env} {objs : List Ob} {l : Option (Nat × Nat)} {loc : Loc} {w' : World} {objs' : List Ob} {v : Value} {n : Nat} (hlen : objs.length < objs'.length)
  (hv : match l with | none => v = .slice none 0 0 ∧ n = 0 | some (b, c) => v = .slice (some ⟨b, 0, none⟩) n c) :
  RepA (ctx e objs' (locAdd loc objs.length l) w') (.c (.own objs.length n)) v := by
 refine ⟨rfl, hlen, ?_⟩
 have : (ctx e objs' (locAdd loc objs.length l) w').loc objs.length = l := by simp [ctx, locAdd]
 rw [this]
 exact hv
theorem zcell {z : Value} {k : Nat} (hz : z.cells.size = k) (n p : Nat) (hp : p < n) (hk : 0 < k) : (madeCells z.cells n)[p]? = some (z.cells.getD (p % k) undef) := by
 have : p % z.cells.size < z.cells.size := Nat.mod_lt _ (by omega)
 subst hz
 simp [madeCells, hp, Array.getD, this]
theorem e_make {e' k bytes : Nat} {lx cx : Operand} {kl kc : IntKind} {l c : Int} {z : Value} (ho : o.op = .makeSlice t lx cx) (hd : o.dst = some d) (hN : Nat.blt d N.N = true) (hl : evs st.slots lx = .c (.int kl l)) (hc : evs st.slots cx = .c (.int kc c))
  (ht : slB P t e' k bytes = true) (hz : (P.info? e').map (·.zero) = some (some z)) (hzs : z.cells.size = k) (hk : Nat.blt 0 k = true) (h0 : 0 ≤ l) (hlc : l ≤ c) (hb : (bytes : Int) * c ≤ 281474976710656) (hm : c ≤ 281474976710656) :
  EOp P N o st ⟨(d, .c (.own st.objs.length l.toNat)) :: st.slots, st.objs ++ [.arr e' k l.toNat fun _ j => cellOf (z.cells.getD j undef)]⟩ := by
 intro e loc a w hr K Q hK
 have hk : 0 < k := by simpa [Nat.blt_eq] using hk
 obtain ⟨i, g1, g2, g3, g4⟩ := slB_out ht
 have h2 := hr.eval lx; rw [hl] at h2
 have h3 := hr.eval cx; rw [hc] at h3
 have h2' : a.eval lx = .int kl l := h2
 have h3' : a.eval cx = .int kc c := h3
 have hzz : i.zero = some z := by rw [g2] at hz; simpa using hz
 have hrun : (execOp a.eval o).run P w = .ok (.value (.slice (some ⟨w.heap.size, 0, none⟩) l.toNat c.toNat)) (w.alloc (.cells (madeCells z.cells (c.toNat * i.size)) e')) := by
  have := run_make (P := P) w t e' i z g1 g2 hzz kl kc l c h0 hlc (by rw [g4]; exact hb) (by omega)
  simp only [execOp, ho, h2', h3', Sem.run_bind, this, Result.andThen_ok, Sem.run_pure]
 unfold Oper.wp
 rw [hrun]
 have hs := hr.step (hr.heap.birth (below_alloc w (.cells (madeCells z.cells (c.toNat * i.size)) e')) (.arr e' k l.toNat fun _ j => cellOf (z.cells.getD j undef)) (some (w.heap.size, c.toNat)) (fun b c h => by cases h; simp)
  (fun hle => by
   refine ⟨_, heap_new w _, by rw [size_madeCells, g3], by omega, by unfold maxLen; omega, fun i' hi' j' hj' => ?_⟩
   refine ⟨_, zcell (k := k) hzs _ _ ?_ hk, ?_⟩
   ·rw [g3]; exact idx_lt (by omega) hj'
   ·rw [idx_mod hj']; exact rep_cellOf _ _ _))
 have := hs.put (some d) (fun s hs => by cases hs; simpa [Nat.blt_eq] using hN) (v := .c (.own st.objs.length l.toNat)) (u := .slice (some ⟨w.heap.size, 0, none⟩) l.toNat c.toNat) (own_new (by simp) rfl)
 rw [Oper.upon_value, hd]
 exact hK _ _ _ this
def fillC (pl : Nat → Option (Nat × Nat)) : List Cell → List (Nat × AV) → Option (List Cell)
 | cells, [] => some cells
 | cells, (i, v) :: r => match pl i with
  | none => none
  | some (off, size) => match Nat.beq v.cells.length size && Nat.ble (off + size) cells.length && !v.cells.isEmpty && v.cells.all Cell.one with
   | true => fillC pl (splice cells off v.cells) r
   | false => none
theorem set_take_drop {α : Type} (l : List α) (n : Nat) (v : α) (h : n < l.length) : (l.set n v).take (n + 1) = l.take n ++ [v] := by
 rw [List.set_eq_take_append_cons_drop, if_pos h, List.take_append]
 have hl : (l.take n).length = n := by simp; omega
 rw [List.take_of_length_le (by omega), hl, show n + 1 - n = 1 by omega]
 rfl
theorem foldl_splice : ∀ (vs : List Value) (k off : Nat) (cs : Array Value), off + k + vs.length ≤ cs.size →
  ((vs.zipIdx k).foldl (fun (cs : Array Value) (p : Value × Nat) => cs.setIfInBounds (off + p.2) p.1) cs).toList = cs.toList.take (off + k) ++ vs ++ cs.toList.drop (off + k + vs.length)
 | [], k, off, cs, _ => by simp
 | v :: vs, k, off, cs, h => by
  simp only [List.length_cons] at h
  simp only [List.zipIdx_cons, List.foldl_cons]
  rw [foldl_splice vs (k + 1) off _ (by simp; omega)]
  have e1 : (cs.setIfInBounds (off + k) v).toList = cs.toList.set (off + k) v := by simp
  rw [e1, show off + (k + 1) = off + k + 1 by omega, set_take_drop _ _ _ (by simp; omega), List.drop_set_of_lt (by omega)]
  simp only [List.append_assoc, List.cons_append, List.nil_append, List.length_cons]
  rw [show off + k + 1 + vs.length = off + k + (vs.length + 1) by omega]
theorem fill_rep {c : Ctx} (pl : Nat → Option (Nat × Nat)) : ∀ (ps : List (Nat × AV)) (us : List (Nat × Value)) (cs cs' : List Cell) (arr : Array Value), RepL c true cs arr.toList →
  ps.map Prod.fst = us.map Prod.fst → (∀ (j : Nat) (v : AV) (u : Value), (ps.map Prod.snd)[j]? = some v → (us.map Prod.snd)[j]? = some u → RepA c v u) → fillC pl cs ps = some cs' →
  ∃ arr', Instr.fill pl arr us = some arr' ∧ RepL c true cs' arr'.toList
 | [], [], cs, cs', arr, hL, _, _, h => by simp only [fillC] at h; cases h; exact ⟨arr, rfl, hL⟩
 | [], _ :: _, _, _, _, _, h, _, _ => by simp at h
 | _ :: _, [], _, _, _, _, h, _, _ => by simp at h
 | (i, v) :: ps, (i', u) :: us, cs, cs', arr, hL, hf, hr, h => by
  simp only [List.map_cons, List.cons.injEq] at hf
  obtain ⟨rfl, hf⟩ := hf
  simp only [fillC] at h
  cases hp : pl i with
  | none => rw [hp] at h; cases h
  | some q =>
   obtain ⟨off, size⟩ := q
   rw [hp] at h
   simp only at h
   split at h
   ·rename_i hb
    simp only [Bool.and_eq_true, Bool.not_eq_true'] at hb
    obtain ⟨⟨⟨h1, h2⟩, h3⟩, h4⟩ := hb
    have h1 := Nat.eq_of_beq_eq_true h1
    have h2 := Nat.le_of_ble_eq_true h2
    have hvu := (hr 0 v u rfl rfl).cells h4 h3
    have hlen := hvu.length
    have hlen2 := hL.length
    have hsz : u.cells.size = size := by rw [← Array.length_toList, ← hlen, h1]
    have hasz : arr.size = cs.length := by rw [← Array.length_toList, ← hlen2]
    have hsp := foldl_splice u.cells.toList 0 off arr (by simp [hsz]; omega)
    simp only [Nat.add_zero] at hsp
    simp only [Instr.fill, hp]
    rw [if_neg (by simp [hsz]; omega)]
    refine fill_rep pl ps us _ cs' _ ?_ hf (fun j v u h5 h6 => hr (j + 1) v u (by simpa using h5) (by simpa using h6)) h
    have e1 : (u.cells.zipIdx.foldl (fun cs (x : Value × Nat) => match x with | (c, j) => cs.setIfInBounds (off + j) c) arr) = ((u.cells.toList.zipIdx 0).foldl (fun (cs : Array Value) (p : Value × Nat) => cs.setIfInBounds (off + p.2) p.1) arr) := by
     rw [← Array.foldl_toList]
     simp [Array.toList_zipIdx]
    rw [e1, hsp]
    exact hL.splice hvu off
   ·cases h
def builtC (P : Program) (t : TypeId) (ps : List (Nat × AV)) : Option (List Cell) :=
 match P.info? t, P.underlying t with
 | some it, some (.array _ e) =>
  match it.zero, P.info? e with
  | some z, some ie => fillC (fun i => some (i * ie.size, ie.size)) (z.cells.toList.map cellOf) ps
  | _, _ => none
 | some it, some (.struct fields) =>
  match it.zero, fields.toList.mapM (fun f => (P.info? f.type).map fun i => (f.offset, i.size)) with
  | some z, some places => fillC (places[·]?) (z.cells.toList.map cellOf) ps
  | _, _ => none
 | _, _ => none
theorem rep_cellsOf (x : Ctx) (arr : Array Value) : RepL x true (arr.toList.map cellOf) arr.toList :=
 RepL.of_get (by simp) (fun j c v h1 h2 => by
  simp only [List.getElem?_map] at h1
  rw [h2] at h1
  simp at h1
  subst h1
  exact rep_cellOf _ _ _)
theorem built_rep {c : Ctx} {t : TypeId} {ps : List (Nat × AV)} {us : List (Nat × Value)} {cs : List Cell} (hf : ps.map Prod.fst = us.map Prod.fst) (hr : ∀ (j : Nat) (v : AV) (u : Value), (ps.map Prod.snd)[j]? = some v → (us.map Prod.snd)[j]? = some u → RepA c v u)
  (h : builtC P t ps = some cs) : ∃ arr, P.built t us = some arr ∧ RepL c true cs arr.toList := by
 unfold builtC at h
 unfold Program.built
 split at h
 ·rename_i it n e h1 h2
  split at h
  ·rename_i z ie h3 h4
   obtain ⟨arr, h5, h6⟩ := fill_rep _ ps us _ cs z.cells (rep_cellsOf c z.cells) hf hr h
   exact ⟨arr, by simp only [h1, h2, h3, h4]; exact h5, h6⟩
  ·cases h
 ·rename_i it fields h1 h2
  split at h
  ·rename_i z places h3 h4
   obtain ⟨arr, h5, h6⟩ := fill_rep _ ps us _ cs z.cells (rep_cellsOf c z.cells) hf hr h
   exact ⟨arr, by simp only [h1, h2, h3, h4]; simpa using h5, h6⟩
  ·cases h
 ·cases h
theorem q_build {ps : List (Nat × AV)} {parts : Array (Nat × Operand)} {cs : List Cell} (ho : o.op = .build t parts) (hps : parts.toList.map (fun p => (p.1, ev p.2)) = ps) (hb : builtC P t ps = some cs) : QOp P o ev objs (.a cs) := by
 refine QOp.of_run fun e loc w a hr hh => ?_
 obtain ⟨arr, h1, h2⟩ := built_rep (P := P) (c := ctx e objs loc w) (t := t) (ps := ps) (us := (parts.map fun (i, x) => (i, a.eval x)).toList) (cs := cs) (by rw [← hps]; simp [Function.comp_def]) (fun j v u h1 h2 => by
  rw [← hps] at h1
  simp only [List.map_map, List.getElem?_map, Function.comp_def, Array.toList_map] at h1 h2
  cases hq : parts.toList[j]? with
  | none => rw [hq] at h1; simp at h1
  | some p =>
   rw [hq] at h1 h2
   simp at h1 h2
   subst h1 h2
   exact hh p.2 (by
    have hm := List.mem_of_getElem? hq
    simp only [ho, Op.operands]
    simp only [List.mem_toArray, List.mem_map]
    exact ⟨p, hm, rfl⟩)) hb
 refine ⟨.agg arr, ?_, _, rfl, h2⟩
 simp only [execOp, ho, Sem.run_bind, run_build w t _ arr h1, Result.andThen_ok, Sem.run_pure]
def sliceC (k len : Nat) (z : List Cell) (ps : List (Nat × AV)) : Option (List Cell) := fillC (fun i => some (i * k, k)) ((List.range (len * k)).map fun p => z.getD (p % k) .any) ps
theorem run_bslice {e' k bytes len : Nat} {z : Value} {ps : List (Nat × AV)} {parts : Array (Nat × Operand)} {cs : List Cell} (ho : o.op = .buildSlice t len parts) (hps : parts.toList.map (fun p => (p.1, ev p.2)) = ps)
  (ht : slB P t e' k bytes = true) (hz : (P.info? e').map (·.zero) = some (some z)) (hzs : z.cells.size = k) (hpos : Nat.blt 0 (len * k) = true) (hsm : Nat.ble (len * k) 16777216 = true) (hb : sliceC k len (z.cells.toList.map cellOf) ps = some cs)
  {c : Ctx} {a : Act} {w : World} (hh : ∀ x ∈ o.op.operands, RepA c (ev x) (a.eval x)) :
  ∃ arr, (execOp a.eval o).run P w = .ok (.value (.slice (some ⟨w.heap.size, 0, none⟩) len len)) (w.alloc (.cells arr e')) ∧ RepL c true cs arr.toList ∧ cs.length = len * k := by
 have hpos : 0 < len * k := by simpa [Nat.blt_eq] using hpos
 have hsm := Nat.le_of_ble_eq_true hsm
 obtain ⟨i, g1, g2, g3, g4⟩ := slB_out ht
 have hzz : i.zero = some z := by rw [g2] at hz; simpa using hz
 have hk : 0 < k := by
  rcases Nat.eq_zero_or_pos k with h | h
  ·subst h; simp at hpos
  ·exact h
 have hL0 : RepL c true ((List.range (len * k)).map fun p => (z.cells.toList.map cellOf).getD (p % k) .any) ((Array.range (len * i.size)).map (z.cells[· % z.cells.size]!)).toList := by
  rw [g3]
  refine RepL.of_get (by simp) (fun j c1 v h1 h2 => ?_)
  have hj : j < len * k := by
   rcases Nat.lt_or_ge j (len * k) with h | h
   ·exact h
   ·rw [List.getElem?_eq_none (by simpa using h)] at h1; cases h1
  have hjk : j % k < z.cells.size := by rw [hzs]; exact Nat.mod_lt _ hk
  simp [hj] at h1 h2
  subst h1 h2
  have : j % z.cells.size < z.cells.size := by rw [hzs]; exact hzs ▸ hjk
  simp only [hzs]
  rw [Array.getElem?_eq_getElem hjk, getElem!_pos z.cells (j % k) hjk]
  simp only [Option.map_some, Option.getD_some]
  exact rep_cellOf _ _ _
 obtain ⟨arr, h1, h2⟩ := fill_rep (c := c) (fun i => some (i * k, k)) ps (parts.map fun (i, x) => (i, a.eval x)).toList _ cs _ hL0 (by rw [← hps]; simp [Function.comp_def]) (fun j v u h1 h2 => by
  rw [← hps] at h1
  simp only [List.map_map, List.getElem?_map, Function.comp_def, Array.toList_map] at h1 h2
  cases hq : parts.toList[j]? with
  | none => rw [hq] at h1; simp at h1
  | some p =>
   rw [hq] at h1 h2
   simp at h1 h2
   subst h1 h2
   exact hh p.2 (by
    have hm := List.mem_of_getElem? hq
    simp only [ho, Op.operands]
    simp only [List.mem_toArray, List.mem_map]
    exact ⟨p, hm, rfl⟩)) hb
 refine ⟨arr, ?_, h2, ?_⟩
 ·have := run_buildSlice (P := P) w t e' len (parts.map fun (i, x) => (i, a.eval x)) arr i z g1 g2 hzz (by rw [g3]; omega) (by rw [g3]; omega) (by rw [g3] at *; exact h1)
  simp only [execOp, ho, Sem.run_bind, this, Result.andThen_ok, Sem.run_pure]
 ·have hfl : ∀ (ps : List (Nat × AV)) (c0 c1 : List Cell), fillC (fun i => some (i * k, k)) c0 ps = some c1 → c1.length = c0.length := by
   intro ps
   induction ps with
   | nil => intro c0 c1 h; simp only [fillC] at h; cases h; rfl
   | cons p r ih =>
    intro c0 c1 h
    obtain ⟨i, v⟩ := p
    simp only [fillC] at h
    split at h
    ·rename_i hb
     simp only [Bool.and_eq_true] at hb
     have h2 := Nat.le_of_ble_eq_true hb.1.1.2
     have h3 := Nat.eq_of_beq_eq_true hb.1.1.1
     rw [ih _ _ h]
     simp [splice, h3]
     omega
    ·cases h
  have := hfl ps _ cs hb
  simpa using this
end
end Go.Proofs.Ytoncfkdgddfnlaa.E
