/- Maps with texts as keys, of one's own. -/
import Derived.Test.YtoncfkdgddfnlaaEngR
import Derived.Sort.EncStr
namespace Go.Proofs.Ytoncfkdgddfnlaa.E
open Go Go.RowKit
set_option linter.unusedVariables false
section
variable {α : Type}
def aidx : List (ByteArray × α) → ByteArray → Option Nat
 | [], _ => none
 | (k, _) :: l, s => bif sEq s k then some 0 else (aidx l s).map (· + 1)
def alook (l : List (ByteArray × α)) (s : ByteArray) : Option α := match aidx l s with
 | some j => (l[j]?).map Prod.snd
 | none => none
def aset (l : List (ByteArray × α)) (s : ByteArray) (v : α) : List (ByteArray × α) := match aidx l s with
 | some j => l.set j (s, v)
 | none => l ++ [(s, v)]
def kG (l : List (ByteArray × α)) (i : Nat) : Cell := .str ((l.map Prod.fst).getD i ByteArray.empty)
def vG (mv : α → V1) (d : α) (l : List (ByteArray × α)) (i : Nat) : V1 := mv ((l.map Prod.snd).getD i d)
def mA {α : Type} (k : Nat) (c : α → Nat → Cell) (x : α) : V1 := .a ((List.range k).map (c x))
def mC {α : Type} (c : α → Nat → Cell) (x : α) : V1 := .c (c x 0)
theorem beq_sEq (a b : ByteArray) : (a == b) = sEq a b := by
 obtain ⟨⟨x⟩⟩ := a
 obtain ⟨⟨y⟩⟩ := b
 show ((⟨x⟩ : Array UInt8) == ⟨y⟩) = (x == y)
 simp
theorem aidx_lt : ∀ (l : List (ByteArray × α)) (s : ByteArray) (j : Nat), aidx l s = some j → ∃ h : j < l.length, sEq s (l[j]'h).1 = true
 | [], s, j, h => by simp [aidx] at h
 | (k, v) :: l, s, j, h => by
  simp only [aidx] at h
  cases hq : sEq s k with
  | true =>
   rw [hq] at h
   simp only [cond_true, Option.some.injEq] at h
   subst h
   exact ⟨by simp, hq⟩
  | false =>
   rw [hq] at h
   simp only [cond_false, Option.map_eq_some_iff] at h
   obtain ⟨i, hi, rfl⟩ := h
   obtain ⟨h1, h2⟩ := aidx_lt l s i hi
   exact ⟨by simpa using h1, by simpa using h2⟩
theorem find_now : ∀ (l : List (ByteArray × α)) (es : List MapEntry) (s : ByteArray) (i : Nat), es.length = l.length → (∀ j (h : j < l.length), ∃ en, es[j]? = some en ∧ en.key = .string (l[j]'h).1) →
  Instr.findNow .string (.string s) es i = some ((aidx l s).bind fun j => (es[j]?).map fun en => (i + j, en.val))
 | [], [], s, i, _, _ => rfl
 | [], _ :: _, s, i, h, _ => by simp at h
 | _ :: _, [], s, i, h, _ => by simp at h
 | (k, v) :: l, en :: es, s, i, hl, h => by
  obtain ⟨en0, h1, h2⟩ := h 0 (by simp)
  simp at h1
  subst h1
  have h2' : en.key = .string k := h2
  have ih := find_now l es s (i + 1) (by simpa using hl) (fun j hj => by
   obtain ⟨e, h3, h4⟩ := h (j + 1) (by simpa using hj)
   exact ⟨e, by simpa using h3, by simpa using h4⟩)
  simp only [Instr.findNow, Instr.sameNow, h2', beq_sEq, aidx]
  cases hq : sEq s k with
  | true => simp
  | false =>
   simp only [ih, cond_false]
   cases aidx l s with
   | none => rfl
   | some j =>
    simp only [Option.bind_some, Option.map_some, List.getElem?_cons_succ]
    cases es[j]? with
    | none => rfl
    | some e => simp only [Option.map_some]; congr 2; congr 1; omega
end
theorem mp_get {P : Program} {w : World} {r : Nat} {es : Array MapEntry} {clock : Nat} (hb : w.heap[r]? = some (.map es clock)) : (getObj r).run P w = .ok (.map es clock) w := by
 simp [getObj, Sem.run, hb]
theorem mp_set {P : Program} {w : World} {r : Nat} {es : Array MapEntry} {clock : Nat} (o : Obj) (hb : w.heap[r]? = some (.map es clock)) : (setObj r o).run P w = .ok () { w with heap := w.heap.setIfInBounds r o } := by
 simp [setObj, Sem.run, hb]
theorem mp_find {P : Program} {w : World} {kt : TypeId} {d : TypeDesc} {k : Value} {l : List MapEntry} {a : Option (Nat × Value)} (hd : P.underlying kt = some d) (h : Instr.findNow d k l 0 = some a) : (Instr.findKey kt k l).run P w = .ok a w := by
 simp [Instr.findKey, run_underlying hd, Result.andThen, h]
theorem mp_key {P : Program} {w : World} {kt : TypeId} (hd : P.underlying kt = some .string) (s : ByteArray) (e : Bool) (n : Nat) : (Instr.checkKey e (n + 1) kt (.string s)).run P w = .ok () w := by
 unfold Instr.checkKey
 simp only [Sem.run_bind, run_underlying hd, Result.andThen]
 rfl
def mapB (P : Program) (mt kt et : Nat) : Bool :=
 match P.underlying mt with
 | some (.map k e) => Nat.beq k kt && Nat.beq e et && (match P.underlying kt with | some .string => true | _ => false)
 | _ => false
theorem mapB_out {P : Program} {mt kt et : Nat} (h : mapB P mt kt et = true) : P.underlying mt = some (.map kt et) ∧ P.underlying kt = some .string := by
 unfold mapB at h
 split at h
 ·rename_i k e hu
  simp only [Bool.and_eq_true] at h
  obtain ⟨⟨h1, h2⟩, h3⟩ := h
  have h1 := Nat.eq_of_beq_eq_true h1
  have h2 := Nat.eq_of_beq_eq_true h2
  subst h1; subst h2
  refine ⟨hu, ?_⟩
  split at h3
  ·assumption
  ·cases h3
 ·cases h
def v1A : V1 → AV
 | .c c => .c c
 | .a l => .a l
theorem RepF.toA {x : Ctx} {c : V1} {v : Value} (h : RepF x c v) : RepA x (v1A c) v := by
 cases c with
 | c c => exact RepC.up h
 | a l => obtain ⟨vs, hv, hl⟩ := h; exact ⟨vs, hv, RepL.up hl⟩
theorem RepF.toV {x : Ctx} {c : V1} {v : Value} (h : RepF x c v) : RepV1 x c v := by
 cases c with
 | c c => exact RepC.up h
 | a l => obtain ⟨vs, hv, hl⟩ := h; exact ⟨vs, hv, RepL.up hl⟩
theorem RepV1.toA {x : Ctx} {c : V1} {v : Value} (h : RepA x (v1A c) v) : RepV1 x c v := by
 cases c with
 | c c => exact h
 | a l => exact h
theorem RepF.ofA {x : Ctx} {c : V1} {v : Value} (h : RepA x (v1A c) v) (hp : c.pers = true) : RepF x c v := by
 cases c with
 | c c => exact RepC.down h hp
 | a l =>
  obtain ⟨vs, hv, hl⟩ := h
  refine ⟨vs, hv, ?_⟩
  have key : ∀ (l : List Cell) (us : List Value), l.all Cell.pers = true → RepL x true l us → RepL x false l us := by
   intro l
   induction l with
   | nil => intro us _ h; cases us with
    | nil => trivial
    | cons _ _ => exact h.elim
   | cons c l ih =>
    intro us hp h
    simp only [List.all_cons, Bool.and_eq_true] at hp
    cases us with
    | nil => exact h.elim
    | cons u us => exact ⟨RepC.down h.1 hp.1, ih us hp.2 h.2⟩
  exact key l _ hp hl
section
variable {P : Program} {N : Fr} {o : Oper} {st : St} {x y z : Operand} {d : Nat} {ev : Operand → AV} {objs : List Ob} {α : Type} {mv : α → V1} {d0 : α} {l : List (ByteArray × α)} {id mt kt et : Nat} {s : ByteArray} {zz : Value}
theorem map_find {e : Env} {loc : Loc} {w : World} {u : Value} (hr : HRep e objs loc w) (hob : objs[id]? = some (.map l.length (kG l) (vG mv d0 l))) (hu : RepC (ctx e objs loc w) true (.mp id) u) (hm : mapB P mt kt et = true) (s : ByteArray) :
  ∃ b c es, u = .map (some b) ∧ loc id = some (b, c) ∧ w.heap[b]? = some (.map es l.length) ∧ es.size = l.length ∧ (∀ i, i < l.length → ∃ en, es[i]? = some en ∧ en.born = i ∧ RepC (ctx e objs loc w) false (kG l i) en.key ∧ RepF (ctx e objs loc w) (vG mv d0 l i) en.val) ∧
   (Instr.checkKey es.isEmpty 10000 kt (.string s)).run P w = .ok () w ∧ (Instr.checkKey false 10000 kt (.string s)).run P w = .ok () w ∧ (Instr.findKey kt (.string s) es.toList).run P w = .ok ((aidx l s).bind fun j => (es[j]?).map fun en => (j, en.val)) w := by
 obtain ⟨_, hB, b, c, hl, hv⟩ := hu
 have hl' : loc id = some (b, c) := hl
 have h3 := hr.rep id _ hob
 rw [hl'] at h3
 obtain ⟨b', c', es, h4, h5, h6, h7⟩ := h3
 cases h4
 obtain ⟨g1, g2⟩ := mapB_out hm
 have hkey : ∀ em, (Instr.checkKey em 10000 kt (.string s)).run P w = .ok () w := fun em => mp_key g2 s em 9999
 refine ⟨b, c, es, hv, hl', h5, h6, h7, hkey _, hkey _, ?_⟩
 have hf := find_now l es.toList s 0 (by simpa using h6) (fun j hj => by
  obtain ⟨en, k1, k2, k3, k4⟩ := h7 j hj
  refine ⟨en, by simpa using k1, ?_⟩
  have k3' : en.key = .string ((l.map Prod.fst).getD j ByteArray.empty) := k3
  rw [k3']
  simp [List.getD_eq_getElem?_getD, hj])
 rw [mp_find g2 hf]
 simp
theorem alook_some {j : Nat} (h : aidx l s = some j) : ∃ hj : j < l.length, alook l s = some (l[j]'hj).2 := by
 obtain ⟨hj, _⟩ := aidx_lt l s j h
 refine ⟨hj, ?_⟩
 unfold alook
 rw [h]
 simp [hj]
theorem vG_at (j : Nat) (hj : j < l.length) : vG mv d0 l j = mv (l[j]'hj).2 := by
 unfold vG
 simp [List.getD_eq_getElem?_getD, hj]
theorem q_lookup (ho : o.op = .lookup mt x y false) (hx : ev x = .c (.mp id)) (hob : objs[id]? = some (.map l.length (kG l) (vG mv d0 l))) (hy : ev y = .c (.str s)) (hm : mapB P mt kt et = true)
  (hz : (P.info? et).map (·.zero) = some (some zz)) (hzv : v1A (mv d0) = avOf zz) : QOp P o ev objs (v1A (mv ((alook l s).getD d0))) := by
 refine QOp.of_run fun e loc w a hr hh => ?_
 have h1 := hh x (by simp [ho, Op.operands]); rw [hx] at h1
 have h2 := hh y (by simp [ho, Op.operands]); rw [hy] at h2
 have h2' : a.eval y = .string s := h2
 obtain ⟨b, c, es, hv, hl, h5, h6, h7, h8, _, h9⟩ := map_find (mv := mv) (d0 := d0) (l := l) hr hob h1 hm s
 obtain ⟨g1, g2⟩ := mapB_out hm
 cases hi : aidx l s with
 | none =>
  rw [hi] at h9
  have hal : alook l s = none := by unfold alook; rw [hi]
  cases hinf : P.info? et with
  | none => rw [hinf] at hz; cases hz
  | some inf =>
   rw [hinf] at hz
   have hzz : inf.zero = some zz := by simpa using hz
   refine ⟨zz, ?_, ?_⟩
   ·simp [execOp, ho, hv, h2', Instr.lookup, run_underlying g1, mp_get h5, h8, h9, zeroValue, run_typeInfo w hinf, hzz]
   ·rw [hal, Option.getD_none, hzv]; exact rep_avOf _ _
 | some j =>
  rw [hi] at h9
  obtain ⟨hj, hal⟩ := alook_some (l := l) hi
  obtain ⟨en, k1, k2, k3, k4⟩ := h7 j hj
  rw [Option.bind_some, k1, Option.map_some] at h9
  refine ⟨en.val, ?_, ?_⟩
  ·simp [execOp, ho, hv, h2', Instr.lookup, run_underlying g1, mp_get h5, h8, h9]
  ·rw [hal, Option.getD_some, ← vG_at (mv := mv) (d0 := d0) j hj]; exact k4.toA
theorem q_lookup_ok (ho : o.op = .lookup mt x y true) (hx : ev x = .c (.mp id)) (hob : objs[id]? = some (.map l.length (kG l) (vG mv d0 l))) (hy : ev y = .c (.str s)) (hm : mapB P mt kt et = true)
  (hz : (P.info? et).map (·.zero) = some (some zz)) (hzv : v1A (mv d0) = avOf zz) : QOp P o ev objs (.t [mv ((alook l s).getD d0), .c (.bool (alook l s).isSome)]) := by
 refine QOp.of_run fun e loc w a hr hh => ?_
 have h1 := hh x (by simp [ho, Op.operands]); rw [hx] at h1
 have h2 := hh y (by simp [ho, Op.operands]); rw [hy] at h2
 have h2' : a.eval y = .string s := h2
 obtain ⟨b, c, es, hv, hl, h5, h6, h7, h8, _, h9⟩ := map_find (mv := mv) (d0 := d0) (l := l) hr hob h1 hm s
 obtain ⟨g1, g2⟩ := mapB_out hm
 cases hi : aidx l s with
 | none =>
  rw [hi] at h9
  have hal : alook l s = none := by unfold alook; rw [hi]
  cases hinf : P.info? et with
  | none => rw [hinf] at hz; cases hz
  | some inf =>
   rw [hinf] at hz
   have hzz : inf.zero = some zz := by simpa using hz
   refine ⟨.tuple #[zz, .bool false], ?_, ?_⟩
   ·simp [execOp, ho, hv, h2', Instr.lookup, run_underlying g1, mp_get h5, h8, h9, zeroValue, run_typeInfo w hinf, hzz]
   ·rw [hal, Option.getD_none]
    exact ⟨_, rfl, RepV1.toA (by rw [hzv]; exact rep_avOf _ _), rfl, trivial⟩
 | some j =>
  rw [hi] at h9
  obtain ⟨hj, hal⟩ := alook_some (l := l) hi
  obtain ⟨en, k1, k2, k3, k4⟩ := h7 j hj
  rw [Option.bind_some, k1, Option.map_some] at h9
  refine ⟨.tuple #[en.val, .bool true], ?_, ?_⟩
  ·simp [execOp, ho, hv, h2', Instr.lookup, run_underlying g1, mp_get h5, h8, h9]
  ·rw [hal, Option.getD_some, ← vG_at (mv := mv) (d0 := d0) j hj]; exact ⟨_, rfl, k4.toV, rfl, trivial⟩
theorem e_makeMap {r : Option Operand} (ho : o.op = .makeMap mt r) (hd : o.dst = some d) (hN : Nat.blt d N.N = true) (hm : mapB P mt kt et = true) (hres : r = none ∨ ∃ q k n, r = some q ∧ evs st.slots q = .c (.int k n)) :
  EOp P N o st ⟨(d, .c (.mp st.objs.length)) :: st.slots, st.objs ++ [.map ([] : List (ByteArray × α)).length (kG ([] : List (ByteArray × α))) (vG mv d0 [])]⟩ := by
 intro e loc a w hr K Q hK
 obtain ⟨g1, g2⟩ := mapB_out hm
 have hrun : (execOp a.eval o).run P w = .ok (.value (.map (some w.heap.size))) (w.alloc (.map #[] 0)) := by
  rcases hres with rfl | ⟨q, k, n, rfl, hq⟩
  ·simp [execOp, ho, Instr.makeMap]
  ·have h2 := hr.eval q
   rw [hq] at h2
   have h2' : a.eval q = .int k n := h2
   simp [execOp, ho, Instr.makeMap, h2', run_underlying g1, asInt, asIntOf]
 unfold Oper.wp
 rw [hrun]
 have hs := hr.step (hr.heap.birth (below_alloc w (.map #[] 0)) (.map ([] : List (ByteArray × α)).length (kG ([] : List (ByteArray × α))) (vG mv d0 [])) (some (w.heap.size, 0)) (fun b c h => by cases h; simp)
  (fun hle => ⟨_, _, #[], rfl, heap_new w _, rfl, fun i hi => absurd hi (Nat.not_lt_zero i)⟩))
 have := hs.put (some d) (fun s hs => by cases hs; simpa [Nat.blt_eq] using hN) (v := .c (.mp st.objs.length)) (u := .map (some w.heap.size)) ⟨rfl, by simp [ctx], w.heap.size, 0, by simp [ctx, locAdd], rfl⟩
 rw [Oper.upon_value, hd]
 exact hK _ _ _ this
theorem e_mapUpdate {v' : α} (ho : o.op = .mapUpdate mt x y z) (hd : o.dst = none) (hx : evs st.slots x = .c (.mp id)) (hob : st.objs[id]? = some (.map l.length (kG l) (vG mv d0 l))) (hy : evs st.slots y = .c (.str s)) (hz : evs st.slots z = v1A (mv v'))
  (hp : (mv v').pers = true) (hm : mapB P mt kt et = true) :
  EOp P N o st ⟨st.slots, st.objs.set id (.map (aset l s v').length (kG (aset l s v')) (vG mv d0 (aset l s v')))⟩ := by
 intro e loc a w hr K Q hK
 have h1 := hr.eval x; rw [hx] at h1
 have h2 := hr.eval y; rw [hy] at h2
 have h3 := hr.eval z; rw [hz] at h3
 have h2' : a.eval y = .string s := h2
 obtain ⟨b, c, es, hv, hl, h5, h6, h7, _, h8, h9⟩ := map_find (mv := mv) (d0 := d0) (l := l) hr.heap hob h1 hm s
 obtain ⟨g1, g2⟩ := mapB_out hm
 have hbl : b < w.heap.size := (Array.getElem?_eq_some_iff.1 h5).1
 have fin : ∀ (es' : Array MapEntry) (w' : World), w' = { w with heap := w.heap.setIfInBounds b (.map es' (aset l s v').length) } → (execOp a.eval o).run P w = .ok .skip w' → es'.size = (aset l s v').length →
   ((ctx e st.objs loc w).Le (ctx e (st.objs.set id (.map (aset l s v').length (kG (aset l s v')) (vG mv d0 (aset l s v')))) loc w') → ∀ i, i < (aset l s v').length → ∃ en, es'[i]? = some en ∧ en.born = i ∧ RepC (ctx e (st.objs.set id (.map (aset l s v').length (kG (aset l s v')) (vG mv d0 (aset l s v')))) loc w') false (kG (aset l s v') i) en.key ∧
    RepF (ctx e (st.objs.set id (.map (aset l s v').length (kG (aset l s v')) (vG mv d0 (aset l s v')))) loc w') (vG mv d0 (aset l s v') i) en.val) → o.wp P a w K Q := by
  intro es' w' hw' hrun hsz hrep
  unfold Oper.wp
  rw [hrun, Oper.upon_skip, hd]
  have hk : Keep (fun k => k = b) w w' := by
   refine ⟨by rw [hw'], by rw [hw'], by rw [hw'], by rw [hw']; simp, fun k hk hne => ?_⟩
   rw [hw']
   show (w.heap.setIfInBounds b _)[k]? = _
   rw [Array.getElem?_setIfInBounds_ne (Ne.symm hne)]
  have hnew : w'.heap[b]? = some (.map es' (aset l s v').length) := by
   rw [hw']
   show (w.heap.setIfInBounds b _)[b]? = _
   simp [hbl]
  refine hK _ _ loc (hr.step (hr.heap.write (o' := .map (aset l s v').length (kG (aset l s v')) (vG mv d0 (aset l s v'))) hob rfl hl hk (fun hle => ?_)))
  rw [hl]
  exact ⟨b, c, es', rfl, hnew, hsz, hrep hle⟩
 cases hi : aidx l s with
 | none =>
  rw [hi] at h9
  have hset : aset l s v' = l ++ [(s, v')] := by unfold aset; rw [hi]
  refine fin (es.push { key := .string s, val := a.eval z, born := l.length }) _ rfl ?_ (by rw [hset]; simp [h6]) (fun hle i hi' => ?_)
  ·have hlen : (aset l s v').length = l.length + 1 := by rw [hset]; simp
   rw [hlen]
   simp [execOp, ho, hv, h2', Instr.mapUpdate, run_underlying g1, mp_get h5, h8, h9, mp_set _ h5]
  ·rw [hset] at hi' ⊢
   rw [List.length_append, List.length_singleton] at hi'
   by_cases hlt : i < l.length
   ·obtain ⟨en, k1, k2, k3, k4⟩ := h7 i hlt
    have e1 : kG (l ++ [(s, v')]) i = kG l i := by
     unfold kG
     rw [List.map_append, List.getD_eq_getElem?_getD, List.getElem?_append_left (by simpa using hlt), ← List.getD_eq_getElem?_getD]
    have e2 : vG mv d0 (l ++ [(s, v')]) i = vG mv d0 l i := by
     unfold vG
     rw [List.map_append, List.getD_eq_getElem?_getD, List.getElem?_append_left (by simpa using hlt), ← List.getD_eq_getElem?_getD]
    rw [hset] at hle
    refine ⟨en, ?_, k2, by rw [e1]; exact RepC.mono hle _ _ _ k3, by rw [e2]; exact RepF.mono hle _ _ k4⟩
    rw [Array.getElem?_push, if_neg (by omega)]; exact k1
   ·have hie : i = l.length := by omega
    subst hie
    have e1 : kG (l ++ [(s, v')]) l.length = .str s := by
     unfold kG
     rw [List.map_append, List.getD_eq_getElem?_getD, List.getElem?_append_right (by simp)]
     simp
    have e2 : vG mv d0 (l ++ [(s, v')]) l.length = mv v' := by
     unfold vG
     rw [List.map_append, List.getD_eq_getElem?_getD, List.getElem?_append_right (by simp)]
     simp
    rw [hset] at hle
    refine ⟨{ key := .string s, val := a.eval z, born := l.length }, ?_, rfl, by rw [e1]; rfl, by rw [e2]; exact RepF.mono hle _ _ (RepF.ofA h3 hp)⟩
    rw [Array.getElem?_push, if_pos (by omega)]
 | some j =>
  rw [hi] at h9
  obtain ⟨hj, hsq⟩ := aidx_lt l s j hi
  obtain ⟨en, k1, k2, k3, k4⟩ := h7 j hj
  rw [Option.bind_some, k1, Option.map_some] at h9
  have hset : aset l s v' = l.set j (s, v') := by unfold aset; rw [hi]
  have hlen : (aset l s v').length = l.length := by rw [hset]; simp
  have hkey : en.key = .string (l[j]).1 := by
   have k3' : en.key = .string ((l.map Prod.fst).getD j ByteArray.empty) := k3
   rw [k3']; simp [List.getD_eq_getElem?_getD, hj]
  have hsame : Instr.sameBits 10000 (.string (l[j]).1) (.string s) = true := by
   simp only [Instr.sameBits, beq_sEq]
   unfold sEq at hsq ⊢
   rw [beq_iff_eq] at hsq ⊢
   exact hsq.symm
  refine fin (es.modify j fun e => { e with key := .string s, val := a.eval z }) _ rfl ?_ (by rw [hlen]; simp [h6]) (fun hle i hi' => ?_)
  ·rw [hlen]
   simp [execOp, ho, hv, h2', Instr.mapUpdate, run_underlying g1, mp_get h5, h8, h9, mp_set _ h5, k1, hkey, Instr.keyThatStays, hsame]
  ·rw [hlen] at hi'
   obtain ⟨en2, m1, m2, m3, m4⟩ := h7 i hi'
   rw [Array.getElem?_modify]
   by_cases hij : j = i
   ·subst hij
    rw [if_pos rfl, m1]
    refine ⟨_, rfl, m2, ?_, ?_⟩
    ·rw [hset]
     unfold kG
     simp [List.getD_eq_getElem?_getD, hj, RepC]
    ·have e2 : vG mv d0 (aset l s v') j = mv v' := by
      rw [hset]
      unfold vG
      simp [List.getD_eq_getElem?_getD, hj]
     rw [e2]
     exact RepF.mono hle _ _ (RepF.ofA h3 hp)
   ·rw [if_neg hij]
    refine ⟨en2, m1, m2, ?_, ?_⟩
    ·have e1 : kG (aset l s v') i = kG l i := by
      rw [hset]
      unfold kG
      simp [List.getD_eq_getElem?_getD, List.getElem?_set_ne hij]
     rw [e1]; exact RepC.mono hle _ _ _ m3
    ·have e2 : vG mv d0 (aset l s v') i = vG mv d0 l i := by
      rw [hset]
      unfold vG
      simp [List.getD_eq_getElem?_getD, List.getElem?_set_ne hij]
     rw [e2]; exact RepF.mono hle _ _ m4
variable {t : TypeId} {kl kh : IntKind} {lo hi : Int} {sl sh : Operand}
end
def insB (x : ByteArray) : List ByteArray → List ByteArray
 | [] => [x]
 | y :: r => bif sLt y x then y :: insB x r else x :: y :: r
def sortB : List ByteArray → List ByteArray
 | [] => []
 | x :: r => insB x (sortB r)
theorem insB_perm (x : ByteArray) : ∀ l : List ByteArray, (insB x l).Perm (x :: l)
 | [] => List.Perm.refl _
 | y :: r => by
  simp only [insB]
  cases sLt y x with
  | true => exact ((insB_perm x r).cons y).trans (List.Perm.swap x y r)
  | false => exact List.Perm.refl _
theorem sortB_perm : ∀ l : List ByteArray, (sortB l).Perm l
 | [] => List.Perm.refl _
 | x :: r => (insB_perm x (sortB r)).trans ((sortB_perm r).cons x)
theorem sortB_len (l : List ByteArray) : (sortB l).length = l.length := (sortB_perm l).length_eq
def bsL (s : ByteArray) : List UInt8 := s.data.toList
theorem bless_lt : ∀ a b : List UInt8, Op.bytesLess a b = decide (a < b)
 | _, [] => by cases ‹List UInt8› <;> simp [Op.bytesLess]
 | [], _ :: _ => by simp [Op.bytesLess]
 | a :: x, b :: y => by
  simp only [Op.bytesLess, bless_lt x y, List.cons_lt_cons_iff]
  by_cases h1 : a < b <;> by_cases h2 : a = b <;> by_cases h3 : x < y <;> simp [h1, h2, h3]
theorem insB_sorted (x : ByteArray) : ∀ l : List ByteArray, l.Pairwise (fun a b => bsL a ≤ bsL b) → (insB x l).Pairwise (fun a b => bsL a ≤ bsL b)
 | [], _ => by simp [insB]
 | y :: r, h => by
  rw [List.pairwise_cons] at h
  simp only [insB]
  have hl : sLt y x = decide (bsL y < bsL x) := bless_lt _ _
  cases hd : sLt y x with
  | true =>
   rw [hl] at hd
   have hyx := of_decide_eq_true hd
   simp only [cond_true, List.pairwise_cons]
   refine ⟨fun z hz => ?_, insB_sorted x r h.2⟩
   have := (insB_perm x r).mem_iff.1 hz
   cases this with
   | head => exact Std.le_of_lt hyx
   | tail _ hz => exact h.1 z hz
  | false =>
   rw [hl] at hd
   have hyx := of_decide_eq_false hd
   have hxy : bsL x ≤ bsL y := Std.not_lt.1 hyx
   simp only [cond_false, List.pairwise_cons]
   refine ⟨fun z hz => ?_, h⟩
   cases hz with
   | head => exact hxy
   | tail _ hz => exact Std.le_trans hxy (h.1 z hz)
theorem sortB_sorted : ∀ l : List ByteArray, (sortB l).Pairwise (fun a b => bsL a ≤ bsL b)
 | [] => List.Pairwise.nil
 | x :: r => insB_sorted x _ (sortB_sorted r)
theorem enc_bsL (s : ByteArray) : Go.Proofs.encStr (bsL s) = .string s := by
 obtain ⟨⟨x⟩⟩ := s
 rfl
end Go.Proofs.Ytoncfkdgddfnlaa.E
