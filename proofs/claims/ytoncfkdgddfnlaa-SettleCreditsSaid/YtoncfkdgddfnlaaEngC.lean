/- Operations that read memory, and addresses. -/
import Derived.Test.YtoncfkdgddfnlaaEngB
namespace Go.Proofs.Ytoncfkdgddfnlaa.E
open Go Go.RowKit
set_option linter.unusedVariables false
def tyB (P : Program) (t : TypeId) (agg : Bool) (size : Nat) : Bool :=
 match P.info? t, P.underlying t with
 | some i, some d => Nat.beq i.size size && (d.isRow == agg)
 | _, _ => false
def slB (P : Program) (t e size bytes : Nat) : Bool :=
 match P.underlying t with
 | some (.slice e') => Nat.beq e' e && (match P.info? e with
  | some i => Nat.beq i.size size && Nat.beq i.bytes bytes
  | none => false)
 | _ => false
def fdB (P : Program) (s f off : Nat) : Bool :=
 match P.underlying s with
 | some (.struct fs) => match fs[f]? with
  | some fd => Nat.beq fd.offset off && (match P.info? fd.type with
   | some i => !(Nat.beq i.size 0)
   | none => false)
  | none => false
 | _ => false
theorem tyB_out {P : Program} {t : TypeId} {agg : Bool} {size : Nat} (h : tyB P t agg size = true) :
  ∃ i d, P.info? t = some i ∧ P.underlying t = some d ∧ i.size = size ∧ d.isRow = agg := by
 unfold tyB at h
 split at h
 ·rename_i i d h1 h2
  simp only [Bool.and_eq_true, beq_iff_eq, Nat.beq_eq] at h
  exact ⟨i, d, h1, h2, h.1, h.2⟩
 ·cases h
theorem slB_out {P : Program} {t e size bytes : Nat} (h : slB P t e size bytes = true) :
  ∃ i, P.underlying t = some (.slice e) ∧ P.info? e = some i ∧ i.size = size ∧ i.bytes = bytes := by
 unfold slB at h
 split at h
 ·rename_i e' he
  simp only [Bool.and_eq_true] at h
  have h1 := Nat.eq_of_beq_eq_true h.1
  subst h1
  have h2 := h.2
  split at h2
  ·rename_i i hi
   simp only [Bool.and_eq_true] at h2
   exact ⟨i, he, hi, Nat.eq_of_beq_eq_true h2.1, Nat.eq_of_beq_eq_true h2.2⟩
  ·cases h2
 ·cases h
theorem fdB_out {P : Program} {s f off : Nat} (h : fdB P s f off = true) :
  ∃ fs fd i, P.underlying s = some (.struct fs) ∧ fs[f]? = some fd ∧ fd.offset = off ∧ P.info? fd.type = some i ∧ i.size ≠ 0 := by
 unfold fdB at h
 split at h
 ·rename_i fs hs
  split at h
  ·rename_i fd hf
   simp only [Bool.and_eq_true] at h
   have h2 := h.2
   split at h2
   ·rename_i i hi
    refine ⟨fs, fd, i, hs, hf, Nat.eq_of_beq_eq_true h.1, hi, fun h0 => ?_⟩
    rw [h0] at h2
    simp at h2
   ·cases h2
  ·cases h
 ·cases h
theorem run_isAgg {P : Program} {t : TypeId} {agg : Bool} {size : Nat} (h : tyB P t agg size = true) (w : World) : (isAgg t).run P w = .ok agg w := by
 obtain ⟨i, d, h1, h2, h3, h4⟩ := tyB_out h
 unfold isAgg
 rw [Sem.run_bind, run_underlying h2 w]
 subst h4
 cases d <;> simp [TypeDesc.isRow]
theorem run_sizeOf' {P : Program} {t : TypeId} {agg : Bool} {size : Nat} (h : tyB P t agg size = true) (w : World) : (sizeOf t).run P w = .ok size w := by
 obtain ⟨i, d, h1, h2, h3, h4⟩ := tyB_out h
 simp [sizeOf, typeInfo, h1, h3]
theorem run_loadVar1 {P : Program} {t : TypeId} {size : Nat} (h : tyB P t false size = true) (w : World) (a : Addr) (v : Value) (hc : w.cell? a = some v) : (loadVar t a).run P w = .ok v w := by
 simp [loadVar, run_isAgg h w, load, Sem.run, hc]
theorem run_loadVarN {P : Program} {t : TypeId} {size : Nat} (h : tyB P t true size = true) (w : World) (b o : Nat) (cs : List Value) (hl : cs.length = size) (hc : w.rangeAt b o cs) :
  (loadVar t ⟨b, o, none⟩).run P w = .ok (.agg cs.toArray) w := by
 obtain ⟨i, d, h1, h2, h3, h4⟩ := tyB_out h
 exact run_loadVar_mid w b o t cs d hc h2 h4 (by rw [h1]; simp [h3, hl])
theorem RepC.up {x : Ctx} {c : Cell} {v : Value} (h : RepC x false c v) : RepC x true c v := by
 cases c <;> simp_all [RepC]
theorem RepL.up {x : Ctx} : ∀ {cs : List Cell} {vs : List Value}, RepL x false cs vs → RepL x true cs vs
 | [], [], _ => trivial
 | _ :: _, _ :: _, hv => ⟨hv.1.up, RepL.up hv.2⟩
 | [], _ :: _, hv => hv.elim
 | _ :: _, [], hv => hv.elim
theorem HRep.box {e : Env} {objs : List Ob} {loc : Loc} {w : World} (h : HRep e objs loc w) {id : Nat} {cs : List Cell} (ho : objs[id]? = some (.box cs)) :
  ∃ b c arr T, loc id = some (b, c) ∧ w.heap[b]? = some (.cells arr T (0, 0)) ∧ RepL (ctx e objs loc w) true cs arr.toList := by
 obtain ⟨b, c, arr, T, h1, h2, h3⟩ := h.rep id _ ho
 exact ⟨b, c, arr, T, h1, h2, h3⟩
theorem cell_of_heap {w : World} {b : Nat} {arr : Array Value} {T : TypeId} {f : Nat × Nat} (h : w.heap[b]? = some (.cells arr T f)) (o : Nat) : w.cell? ⟨b, o, none⟩ = arr[o]? := by
 simp [World.cell?, h]
section
variable {P : Program} {o : Oper} {ev : Operand → AV} {objs : List Ob} {x : Operand} {t : TypeId}
theorem q_load_ptr {id j : Nat} {cs : List Cell} {c : Cell} (ho : o.op = .load t x) (hx : ev x = .c (.ptr id j)) (hob : objs[id]? = some (.box cs)) (hc : cs[j]? = some c) (ht : tyB P t false 1 = true) : QOp P o ev objs (.c c) := by
 refine QOp.of_run fun e loc w a hr h => ?_
 have h1 := h x (by simp [ho, Op.operands]); rw [hx] at h1
 obtain ⟨_, _, b, c', hl, hv⟩ := h1
 obtain ⟨b2, c2, arr, T, hl2, hh, hL⟩ := hr.box hob
 have : loc id = some (b, c') := hl
 rw [this] at hl2
 cases hl2
 obtain ⟨v, hv2, hrep⟩ := hL.get j c hc
 have hcell : w.cell? ⟨b, j, none⟩ = some v := by rw [cell_of_heap hh]; simpa using hv2
 exact ⟨v, by simp [execOp, ho, hv, Instr.loadAt, Instr.sureAddr, run_loadVar1 ht w _ _ hcell], hrep⟩
theorem RepL.drop {x : Ctx} {t : Bool} : ∀ {cs : List Cell} {vs : List Value} (_ : RepL x t cs vs) (j : Nat), RepL x t (cs.drop j) (vs.drop j)
 | [], [], _, j => by simp [RepL]
 | _ :: cs, _ :: vs, hv, 0 => hv
 | _ :: cs, _ :: vs, hv, j + 1 => RepL.drop (cs := cs) (vs := vs) hv.2 j
 | [], _ :: _, hv, _ => hv.elim
 | _ :: _, [], hv, _ => hv.elim
theorem RepL.take {x : Ctx} {t : Bool} : ∀ {cs : List Cell} {vs : List Value} (_ : RepL x t cs vs) (j : Nat), RepL x t (cs.take j) (vs.take j)
 | [], [], _, j => by simp [RepL]
 | _ :: cs, _ :: vs, hv, 0 => by simp [RepL]
 | _ :: cs, _ :: vs, hv, j + 1 => ⟨hv.1, RepL.take (cs := cs) (vs := vs) hv.2 j⟩
 | [], _ :: _, hv, _ => hv.elim
 | _ :: _, [], hv, _ => hv.elim
theorem q_load_ptr_all {id j n : Nat} {cs l : List Cell} (ho : o.op = .load t x) (hx : ev x = .c (.ptr id j)) (hob : objs[id]? = some (.box cs)) (hl : (cs.drop j).take n = l) (hn : l.length = n) (ht : tyB P t true n = true) : QOp P o ev objs (.a l) := by
 refine QOp.of_run fun e loc w a hr h => ?_
 have h1 := h x (by simp [ho, Op.operands]); rw [hx] at h1
 obtain ⟨_, _, b, c', hloc, hv⟩ := h1
 obtain ⟨b2, c2, arr, T, hl2, hh, hL⟩ := hr.box hob
 have : loc id = some (b, c') := hloc
 rw [this] at hl2
 cases hl2
 have hL2 := (hL.drop j).take n
 rw [hl] at hL2
 have hlen : ((arr.toList.drop j).take n).length = n := by rw [← hL2.length, hn]
 have hrange : w.rangeAt b j ((arr.toList.drop j).take n) := by
  intro m v hm
  rw [cell_of_heap hh]
  rw [List.getElem?_take] at hm
  split at hm
  ·simpa [List.getElem?_drop] using hm
  ·cases hm
 refine ⟨.agg ((arr.toList.drop j).take n).toArray, ?_, _, rfl, by simpa using hL2⟩
 have := run_loadVarN ht w b j _ hlen hrange
 simp only [execOp, ho, hv, Instr.loadAt, Instr.sureAddr, Sem.run_bind, Sem.run_pure, Result.andThen_ok, this]
theorem q_load_eptr {k j : Nat} {get : Nat → Cell} (ho : o.op = .load t x) (hx : ev x = .c (.eptr k get j)) (ht : tyB P t false 1 = true) : QOp P o ev objs (.c (get j)) := by
 refine QOp.of_run fun e loc w a hr h => ?_
 have h1 := h x (by simp [ho, Op.operands]); rw [hx] at h1
 obtain ⟨hj, b, off, hv, hO, hcell⟩ := h1
 obtain ⟨v, hv2, hrep⟩ := hcell j hj
 have hcell : w.cell? ⟨b, off + j, none⟩ = some v := hv2
 exact ⟨v, by simp [execOp, ho, hv, Instr.loadAt, Instr.sureAddr, run_loadVar1 ht w _ _ hcell], hrep.up⟩
theorem pick_list {Q : Nat → Value → Prop} : ∀ (n : Nat) (_ : ∀ m, m < n → ∃ v, Q m v), ∃ l : List Value, l.length = n ∧ ∀ m v, l[m]? = some v → Q m v
 | 0, _ => ⟨[], rfl, fun m v h => by simp at h⟩
 | n + 1, h => by
  obtain ⟨l, h1, h2⟩ := pick_list n (fun m hm => h m (by omega))
  obtain ⟨v, hv⟩ := h n (by omega)
  refine ⟨l ++ [v], by simp [h1], fun m u hu => ?_⟩
  rw [List.getElem?_append] at hu
  split at hu
  ·exact h2 m u hu
  ·rename_i hm
   have : m = n := by
    cases hq : m - l.length with
    | zero => omega
    | succ q => rw [hq] at hu; simp at hu
   subst this
   simp [h1] at hu
   subst hu
   exact hv
theorem q_load_eptr_all {k j n : Nat} {get : Nat → Cell} (ho : o.op = .load t x) (hx : ev x = .c (.eptr k get j)) (hjn : Nat.ble (j + n) k = true) (ht : tyB P t true n = true) : QOp P o ev objs (.a ((List.range n).map fun m => get (j + m))) := by
 refine QOp.of_run fun e loc w a hr h => ?_
 have hjn := Nat.le_of_ble_eq_true hjn
 have h1 := h x (by simp [ho, Op.operands]); rw [hx] at h1
 obtain ⟨hj, b, off, hv, hO, hcell⟩ := h1
 obtain ⟨l, hlen, hl⟩ := pick_list (Q := fun m v => w.cell? ⟨b, off + j + m, none⟩ = some v ∧ RepC (ctx e objs loc w) false (get (j + m)) v) n
  (fun m hm => by
   obtain ⟨v, h1, h2⟩ := hcell (j + m) (by omega)
   exact ⟨v, by rw [Nat.add_assoc]; exact h1, h2⟩)
 refine ⟨.agg l.toArray, ?_, _, rfl, ?_⟩
 ·have := run_loadVarN ht w b (off + j) l hlen (fun m v hm => (hl m v hm).1)
  simp only [execOp, ho, hv, Instr.loadAt, Instr.sureAddr, Sem.run_bind, Sem.run_pure, Result.andThen_ok, this]
 ·refine RepL.of_get (by simp [hlen]) (fun m c v h1 h2 => ?_)
  simp only [List.getElem?_map] at h1
  have hm : m < n := by
   rcases Nat.lt_or_ge m n with h | h
   ·exact h
   ·rw [List.getElem?_eq_none (by simpa using h)] at h1; simp at h1
  rw [List.getElem?_range hm] at h1
  simp at h1
  subst h1
  exact ((hl m v (by simpa using h2)).2).up
theorem HRep.arr {e : Env} {objs : List Ob} {loc : Loc} {w : World} (h : HRep e objs loc w) {id T k n : Nat} {get : Nat → Nat → Cell} (ho : objs[id]? = some (.arr T k n get)) {b c : Nat} (hl : loc id = some (b, c)) :
  ∃ arr, w.heap[b]? = some (.cells arr T (0, 0)) ∧ arr.size = c * k ∧ n ≤ c ∧ c ≤ maxLen ∧ ∀ i, i < n → ∀ j, j < k → ∃ y, arr[i * k + j]? = some y ∧ RepC (ctx e objs loc w) false (get i j) y := by
 have := h.rep id _ ho
 rw [hl] at this
 exact this
theorem q_load_aptr {id T k n i j : Nat} {get : Nat → Nat → Cell} (ho : o.op = .load t x) (hx : ev x = .c (.aptr id k i j)) (hob : objs[id]? = some (.arr T k n get)) (hi : i < n) (hj : Nat.blt j k = true) (ht : tyB P t false 1 = true) : QOp P o ev objs (.c (get i j)) := by
 refine QOp.of_run fun e loc w a hr h => ?_
 have hj : j < k := by simpa [Nat.blt_eq] using hj
 have h1 := h x (by simp [ho, Op.operands]); rw [hx] at h1
 obtain ⟨_, _, b, c', hloc, hv⟩ := h1
 obtain ⟨arr, hh, hs, hnc, hcm, hg⟩ := hr.arr hob hloc
 obtain ⟨v, hv2, hrep⟩ := hg i hi j hj
 have hcell : w.cell? ⟨b, i * k + j, none⟩ = some v := by rw [cell_of_heap hh]; exact hv2
 exact ⟨v, by simp [execOp, ho, hv, Instr.loadAt, Instr.sureAddr, run_loadVar1 ht w _ _ hcell], hrep.up⟩
theorem run_fieldAt {s f off : Nat} (h : fdB P s f off = true) (w : World) (b p : Nat) : (Instr.fieldAt s (.pointer (some ⟨b, p, none⟩)) f).run P w = .ok (.pointer (some ⟨b, p + off, none⟩)) w := by
 obtain ⟨fs, fd, i, h1, h2, h3, h4, h5⟩ := fdB_out h
 simp [Instr.fieldAt, run_underlying h1, h2, Instr.sureAddr, fieldPlace, sizeOf, typeInfo, h4, h5, Addr.add_mid, h3]
theorem q_field_ptr {s f off id j : Nat} (ho : o.op = .fieldAddr s x f) (hx : ev x = .c (.ptr id j)) (hf : fdB P s f off = true) : QOp P o ev objs (.c (.ptr id (j + off))) := by
 refine QOp.of_run fun e loc w a hr h => ?_
 have h1 := h x (by simp [ho, Op.operands]); rw [hx] at h1
 obtain ⟨_, hB, b, c', hloc, hv⟩ := h1
 exact ⟨_, by simp only [execOp, ho, hv, Sem.run_bind, run_fieldAt hf, Result.andThen_ok, Sem.run_pure], rfl, hB, b, c', hloc, rfl⟩
theorem q_field_eptr {s f off k j : Nat} {get : Nat → Cell} (ho : o.op = .fieldAddr s x f) (hx : ev x = .c (.eptr k get j)) (hf : fdB P s f off = true) (hk : Nat.blt (j + off) k = true) : QOp P o ev objs (.c (.eptr k get (j + off))) := by
 refine QOp.of_run fun e loc w a hr h => ?_
 have hk : j + off < k := by simpa [Nat.blt_eq] using hk
 have h1 := h x (by simp [ho, Op.operands]); rw [hx] at h1
 obtain ⟨hj, b, off', hv, hO, hcell⟩ := h1
 exact ⟨.pointer (some ⟨b, off' + j + off, none⟩), by simp only [execOp, ho, hv, Sem.run_bind, run_fieldAt hf, Result.andThen_ok, Sem.run_pure], hk, b, off', by rw [Nat.add_assoc], hO, hcell⟩
theorem run_indexAt {tt e size bytes : Nat} (h : slB P tt e size bytes = true) (w : World) (b off n c : Nat) (kk : IntKind) (i : Int) (h0 : 0 ≤ i) (hi : i < n) :
  (Instr.indexAt tt (.slice (some ⟨b, off, none⟩) n c) (.int kk i)).run P w = .ok (.pointer (some ⟨b, off + i.toNat * size, none⟩)) w := by
 obtain ⟨inf, h1, h2, h3, h4⟩ := slB_out h
 simp [Instr.indexAt, asIntOf, run_underlying h1, h0, hi, sizeOf, typeInfo, h2, h3, Addr.add_mid]
theorem q_index_vec {tt e bytes n k : Nat} {ix : Operand} {get : Nat → Nat → Cell} {kk : IntKind} {i : Int} (ho : o.op = .indexAddr tt x ix) (hx : ev x = .c (.vec n k get)) (hix : ev ix = .c (.int kk i)) (h : slB P tt e k bytes = true)
  (hk : Nat.blt 0 k = true) (h0 : 0 ≤ i) (hi : i < n) : QOp P o ev objs (.c (.eptr k (get i.toNat) 0)) := by
 refine QOp.of_run fun e loc w a hr hh => ?_
 have hk : 0 < k := by simpa [Nat.blt_eq] using hk
 have h1 := hh x (by simp [ho, Op.operands]); rw [hx] at h1
 have h2 := hh ix (by simp [ho, Op.operands]); rw [hix] at h2
 have h2' : a.eval ix = .int kk i := h2
 obtain ⟨ad, c, hv, hnc, hp⟩ := h1
 obtain ⟨b, off, rfl, hO, hcell⟩ := hp (by omega) hk
 refine ⟨.pointer (some ⟨b, off + i.toNat * k, none⟩), by simp only [execOp, ho, hv, h2', Sem.run_bind, run_indexAt h w b off n c kk i h0 hi, Result.andThen_ok, Sem.run_pure], hk, b, off + i.toNat * k, rfl, hO, fun j hj => ?_⟩
 obtain ⟨y, hy, hr⟩ := hcell i.toNat (by omega) j hj
 exact ⟨y, hy, hr⟩
theorem q_index_own {tt e bytes id len k : Nat} {ix : Operand} {kk : IntKind} {i : Int} (ho : o.op = .indexAddr tt x ix) (hx : ev x = .c (.own id len)) (hix : ev ix = .c (.int kk i)) (h : slB P tt e k bytes = true)
  (h0 : 0 ≤ i) (hi : i < len) : QOp P o ev objs (.c (.aptr id k i.toNat 0)) := by
 refine QOp.of_run fun e loc w a hr hh => ?_
 have h1 := hh x (by simp [ho, Op.operands]); rw [hx] at h1
 have h2 := hh ix (by simp [ho, Op.operands]); rw [hix] at h2
 have h2' : a.eval ix = .int kk i := h2
 obtain ⟨_, hB, hm⟩ := h1
 cases hl : loc id with
 | none =>
  have : (ctx e objs loc w).loc id = none := hl
  rw [this] at hm
  obtain ⟨_, h0'⟩ := hm
  omega
 | some l =>
  obtain ⟨b, c⟩ := l
  have : (ctx e objs loc w).loc id = some (b, c) := hl
  rw [this] at hm
  have hm' : a.eval x = .slice (some ⟨b, 0, none⟩) len c := hm
  exact ⟨.pointer (some ⟨b, 0 + i.toNat * k, none⟩), by simp only [execOp, ho, hm', h2', Sem.run_bind, run_indexAt h w b 0 len c kk i h0 hi, Result.andThen_ok, Sem.run_pure], rfl, hB, b, c, hl, by simp⟩
theorem run_len {tt e size bytes : Nat} (h : slB P tt e size bytes = true) (ty : TypeId) (w : World) (a : Option Addr) (n c : Nat) : (Builtin.len_ #[tt] ty #[.slice a n c]).run P w = .ok (.int .i64 n) w := by
 obtain ⟨inf, h1, h2, h3, h4⟩ := slB_out h
 simp [Builtin.len_, run_underlying h1, goInt]
theorem q_len_val {tt : TypeId} {v : Cell} (ho : o.op = .call { callee := .builtin .len, args := #[x], argTypes := #[tt] })
  (h : ∀ (e : Env) (loc : Loc) (w : World) (a : Act), HRep e objs loc w → RepA (ctx e objs loc w) (ev x) (a.eval x) → ∃ u, (Builtin.len_ #[tt] o.type #[a.eval x]).run P w = .ok u w ∧ RepC (ctx e objs loc w) true v u) : QOp P o ev objs (.c v) := by
 refine QOp.of_run fun e loc w a hr hh => ?_
 have h1 := hh x (by simp [ho, Op.operands, Call.operands])
 obtain ⟨u, hu, hv⟩ := h e loc w a hr h1
 refine ⟨u, ?_, hv⟩
 simp only [execOp, ho, resolve, invoke, builtin, Sem.run_bind, Sem.run_pure, Result.andThen_ok, List.map_toArray, List.map_cons, List.map_nil, hu]
theorem q_len_vec {tt e size bytes n k : Nat} {get : Nat → Nat → Cell} (ho : o.op = .call { callee := .builtin .len, args := #[x], argTypes := #[tt] }) (hx : ev x = .c (.vec n k get)) (h : slB P tt e size bytes = true) : QOp P o ev objs (.c (.int .i64 n)) :=
 q_len_val ho fun e loc w a hr h1 => by
  rw [hx] at h1
  obtain ⟨ad, c, hv, hnc, hp⟩ := h1
  exact ⟨_, by rw [hv]; exact run_len h _ w _ _ _, rfl⟩
theorem q_len_own {tt e size bytes id len : Nat} (ho : o.op = .call { callee := .builtin .len, args := #[x], argTypes := #[tt] }) (hx : ev x = .c (.own id len)) (h : slB P tt e size bytes = true) : QOp P o ev objs (.c (.int .i64 len)) :=
 q_len_val ho fun e loc w a hr h1 => by
  rw [hx] at h1
  obtain ⟨_, hB, hm⟩ := h1
  cases hl : (ctx e objs loc w).loc id with
  | none => rw [hl] at hm; obtain ⟨hm, h0⟩ := hm; subst h0; exact ⟨_, by rw [hm]; exact run_len h _ w _ _ _, rfl⟩
  | some l => obtain ⟨b, c⟩ := l; rw [hl] at hm; have hm' : a.eval x = .slice (some ⟨b, 0, none⟩) len c := hm; exact ⟨_, by rw [hm']; exact run_len h _ w _ _ _, rfl⟩
theorem q_len_str {tt : Nat} {s : ByteArray} (ho : o.op = .call { callee := .builtin .len, args := #[x], argTypes := #[tt] }) (hx : ev x = .c (.str s)) (h : P.underlying tt = some .string) : QOp P o ev objs (.c (.int .i64 s.size)) :=
 q_len_val ho fun e loc w a hr h1 => by
  rw [hx] at h1
  have hm' : a.eval x = .string s := h1
  exact ⟨.int .i64 s.size, by rw [hm']; simp [Builtin.len_, run_underlying h, goInt], rfl⟩
theorem RepV1L.get {x : Ctx} : ∀ {cs : List V1} {vs : List Value} (_ : RepV1L x cs vs) (j : Nat) (c : V1), cs[j]? = some c → ∃ v, vs[j]? = some v ∧ RepV1 x c v
 | [], [], _, j, c, h => by simp at h
 | c :: cs, v :: vs, hv, 0, c', h => by simp at h; subst h; exact ⟨v, rfl, hv.1⟩
 | c :: cs, v :: vs, hv, j + 1, c', h => by
  simp at h
  obtain ⟨v', h1, h2⟩ := RepV1L.get hv.2 j c' h
  exact ⟨v', by simpa using h1, h2⟩
 | [], _ :: _, hv, _, _, _ => hv.elim
 | _ :: _, [], hv, _, _, _ => hv.elim
def V1.av : V1 → AV
 | .c q => .c q
 | .a l => .a l
theorem q_extract {i : Nat} {vs : List V1} {v : V1} (ho : o.op = .extract x i) (hx : ev x = .t vs) (hi : vs[i]? = some v) : QOp P o ev objs v.av := by
 refine QOp.of_run fun e loc w a hr hh => ?_
 have h1 := hh x (by simp [ho, Op.operands]); rw [hx] at h1
 obtain ⟨us, hv, hL⟩ := h1
 obtain ⟨u, hu, hrep⟩ := hL.get i v hi
 refine ⟨u, ?_, ?_⟩
 ·simp only [execOp, ho, hv, Instr.extract]
  have : us[i]? = some u := by simpa using hu
  simp [this]
 ·cases v <;> exact hrep
theorem q_convert {src dst : TypeId} {k k' : IntKind} {n : Int} {d : TypeDesc} (ho : o.op = .convert src dst x) (hx : ev x = .c (.int k n)) (h1 : P.underlying src = some d) (h2 : P.underlying dst = some (.int k')) : QOp P o ev objs (.c (.int k' (k'.wrap n))) := by
 refine QOp.of_run fun e loc w a hr hh => ?_
 have h3 := hh x (by simp [ho, Op.operands]); rw [hx] at h3
 have h3' : a.eval x = .int k n := h3
 exact ⟨.int k' (k'.wrap n), by simp [execOp, ho, h3', convert, run_underlying h1, run_underlying h2, Conv.intToInt], rfl⟩
end
end Go.Proofs.Ytoncfkdgddfnlaa.E
