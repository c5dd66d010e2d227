/- Arrays as lists; joins; the ways out of a model's guards. -/
import Derived.Test.YtoncfkdgddfnlaaEngI
namespace Go.Proofs.Ytoncfkdgddfnlaa.E
open Go Go.RowKit
set_option linter.unusedVariables false
def gL {α : Type} (c : α → Nat → Cell) (d : α) (l : List α) (i j : Nat) : Cell := c (l.getD i d) j
def cInt (k : IntKind) (n : Int) (_ : Nat) : Cell := .int k n
def cBool (b : Bool) (_ : Nat) : Cell := .bool b
def cStr (s : ByteArray) (_ : Nat) : Cell := .str s
def cVec {α : Type} (k : Nat) (c : α → Nat → Cell) (d : α) (l : List α) (_ : Nat) : Cell := .vec l.length k (gL c d l)
theorem EOp.sub {P : Program} {N : Fr} {o : Oper} {st st1 st2 : St} (h : EOp P N o st st1) (hs : Sub N st1 st2) : EOp P N o st st2 := by
 intro e loc a w hr K Q hK
 refine h e loc a w hr K Q (fun a' w' loc' hr' => ?_)
 obtain ⟨loc2, hr2⟩ := hs e loc' a' w' hr'
 exact hK a' w' loc2 hr2
theorem Sub.reArr {N : Fr} {st : St} {id T k n : Nat} {get get' : Nat → Nat → Cell} (hob : st.objs[id]? = some (.arr T k n get)) (hg : ∀ i, i < n → ∀ j, j < k → get i j = get' i j) :
  Sub N st ⟨st.slots, st.objs.set id (.arr T k n get')⟩ := by
 intro e loc a w hr
 cases hl : loc id with
 | some bc =>
  obtain ⟨b, c⟩ := bc
  refine ⟨loc, hr.step (hr.heap.write (o' := .arr T k n get') hob rfl hl (Keep.refl _ _) (fun hle => ?_))⟩
  obtain ⟨arr, hh, h1, h2, h3, h4⟩ := hr.heap.arr hob hl
  rw [hl]
  refine ⟨arr, hh, h1, h2, h3, fun i hi j hj => ?_⟩
  obtain ⟨y, hy, hrep⟩ := h4 i hi j hj
  exact ⟨y, hy, by rw [← hg i hi j hj]; exact RepC.mono hle _ _ _ hrep⟩
 | none =>
  have hid : id < st.objs.length := (List.getElem?_eq_some_iff.1 hob).1
  have h0 : n = 0 := by
   have := hr.heap.rep id _ hob
   rw [hl] at this
   exact this
  have hcase : ∀ i o2, (st.objs.set id (.arr T k n get'))[i]? = some o2 → (i ≠ id ∧ st.objs[i]? = some o2) ∨ (i = id ∧ o2 = .arr T k n get') := by
   intro i o2 hi
   rw [List.getElem?_set] at hi
   by_cases hii : id = i
   ·subst hii
    simp [hid] at hi
    exact .inr ⟨rfl, hi.symm⟩
   ·rw [if_neg hii] at hi
    exact .inl ⟨fun hh => hii hh.symm, hi⟩
  have hin : ∀ (i : Nat) (o2 : Ob) (s : Option Nat) (b2 c2 : Nat), (st.objs.set id (.arr T k n get'))[i]? = some o2 → o2.has s = true → loc.at i s = some (b2, c2) → st.objs[i]? = some o2 := by
   intro i o2 s b2 c2 h1 h2 h3
   rcases hcase i o2 h1 with ⟨_, h4⟩ | ⟨rfl, rfl⟩
   ·exact h4
   ·cases s with
    | none => rw [show loc.at i none = none from hl] at h3; cases h3
    | some r => simp [Ob.has, Ob.mem] at h2
  refine ⟨loc, hr.step (hr.heap.step (fun _ => False) (Keep.refl _ _) (fun _ h => h.elim) (by simp) (fun _ _ => rfl) ?_ ?_ ?_)⟩
  ·rintro b2 ⟨i, o2, s, c2, h1, h2, h3⟩
   have h4 := hin i o2 s b2 c2 h1 h2 h3
   exact ⟨.inl ⟨i, o2, s, c2, h4, h2, h3⟩, (hr.heap.fresh i o2 s b2 c2 h4 h2 h3).1⟩
  ·intro i j o1 o2 s s' b1 c1 c2 h1 h2 h3 h4 h5 h6
   exact hr.heap.inj i j o1 o2 s s' b1 c1 c2 (hin i o1 s b1 c1 h1 h2 h5) h2 (hin j o2 s' b1 c2 h3 h4 h6) h4 h5 h6
  ·intro hle i o2 h1
   rcases hcase i o2 h1 with ⟨hne, h4⟩ | ⟨rfl, rfl⟩
   ·exact .inl ⟨h4, (List.getElem?_eq_some_iff.1 h4).1, rfl, fun _ _ _ _ _ hf => hf⟩
   ·right; rw [hl]; exact h0
section
variable {α : Type} {c : α → Nat → Cell} {d0 : α} {P : Program} {N : Fr} {o : Oper} {st : St} {x y : Operand} {t : TypeId} {d : Nat} {ev : Operand → AV} {objs : List Ob}
theorem rangeMap_get {α : Type} {k : Nat} {f g : Nat → α} (h : (List.range k).map f = (List.range k).map g) (j : Nat) (hj : j < k) : f j = g j := by
 have := congrArg (·[j]?) h
 simpa [hj] using this
theorem last_id (l : List Ob) (x : Ob) : (l ++ [x])[l.length]? = some x := by simp
theorem set_last (l : List Ob) (x y : Ob) : (l ++ [x]).set l.length y = l ++ [y] := by
 rw [List.set_append_right _ _ (Nat.le_refl _)]; simp
theorem e_makeL {e' k bytes : Nat} {lx cx : Operand} {kl kc : IntKind} {l c1 : Int} {z : Value} (ho : o.op = .makeSlice t lx cx) (hd : o.dst = some d) (hN : Nat.blt d N.N = true) (hl : evs st.slots lx = .c (.int kl l)) (hc : evs st.slots cx = .c (.int kc c1))
  (ht : slB P t e' k bytes = true) (hz : (P.info? e').map (·.zero) = some (some z)) (hzs : z.cells.size = k) (hk : Nat.blt 0 k = true) (hcd : (List.range k).map (fun j => cellOf (z.cells.getD j undef)) = (List.range k).map (c d0))
  (h0 : 0 ≤ l) (hlc : l ≤ c1) (hb : (bytes : Int) * c1 ≤ 281474976710656) (hm : c1 ≤ 281474976710656) :
  EOp P N o st ⟨(d, .c (.own st.objs.length (List.replicate l.toNat d0).length)) :: st.slots, st.objs ++ [.arr e' k (List.replicate l.toNat d0).length (gL c d0 (List.replicate l.toNat d0))]⟩ := by
 rw [List.length_replicate]
 refine (e_make ho hd hN hl hc ht hz hzs hk h0 hlc hb hm).sub ?_
 have := Sub.reArr (N := N) (st := ⟨(d, .c (.own st.objs.length l.toNat)) :: st.slots, st.objs ++ [.arr e' k l.toNat fun _ j => cellOf (z.cells.getD j undef)]⟩) (get' := gL c d0 (List.replicate l.toNat d0)) (last_id _ _)
  (fun i hi j hj => by
   have h1 : (List.replicate l.toNat d0).getD i d0 = d0 := by rw [List.getD_eq_getElem?_getD, List.getElem?_replicate]; split <;> rfl
   unfold gL
   rw [h1]
   exact rangeMap_get hcd j hj)
 rwa [set_last] at this
theorem flat_of_list {k : Nat} : ∀ (l : List α) (cs : List Cell), cs = l.flatMap (fun x => (List.range k).map (c x)) → ∀ i, i < l.length → ∀ j, j < k → flatG k cs i j = gL c d0 l i j
 | [], cs, h, i, hi, j, hj => by simp at hi
 | x :: l, cs, h, i, hi, j, hj => by
  subst h
  unfold flatG gL
  rw [List.flatMap_cons]
  cases i with
  | zero =>
   rw [List.getD_eq_getElem?_getD, List.getElem?_append_left (by simp; omega)]
   simp [hj]
  | succ i =>
   have ih := flat_of_list l _ rfl i (by simpa using hi) j hj
   unfold flatG gL at ih
   rw [List.getD_eq_getElem?_getD, List.getElem?_append_right (by simp [Nat.add_mul]; omega)]
   simp only [List.length_map, List.length_range]
   rw [show (i + 1) * k + j - k = i * k + j by rw [Nat.add_mul]; omega]
   rw [List.getD_eq_getElem?_getD] at ih
   rw [ih]
   simp
theorem q_bsliceL {e' k bytes len : Nat} {z : Value} {ps : List (Nat × AV)} {parts : Array (Nat × Operand)} {cs : List Cell} (l : List α) (ho : o.op = .buildSlice t len parts) (hps : parts.toList.map (fun p => (p.1, ev p.2)) = ps)
  (ht : slB P t e' k bytes = true) (hz : (P.info? e').map (·.zero) = some (some z)) (hzs : z.cells.size = k) (hpos : Nat.blt 0 (len * k) = true) (hsm : Nat.ble (len * k) 16777216 = true) (hb : sliceC k len (z.cells.toList.map cellOf) ps = some cs)
  (hp : cs.all Cell.pers = true) (hl : l.length = len) (hcs : cs = l.flatMap (fun x => (List.range k).map (c x))) : QOp P o ev objs (.c (.vec l.length k (gL c d0 l))) := by
 intro e loc w a hr hh K Q hK
 refine q_bslice (objs := objs) ho hps ht hz hzs hpos hsm hb hp e loc w a hr hh K Q (fun u w' hb' hu => hK u w' hb' ?_)
 obtain ⟨ad, c1, rfl, hnc, hcell⟩ := hu
 rw [hl]
 refine ⟨ad, c1, rfl, hnc, fun hn hk => ?_⟩
 obtain ⟨b, off, rfl, hO, h1⟩ := hcell hn hk
 refine ⟨b, off, rfl, hO, fun i hi j hj => ?_⟩
 obtain ⟨y, hy, hrep⟩ := h1 i hi j hj
 exact ⟨y, hy, by rw [← flat_of_list l cs hcs i (by omega) j hj]; exact hrep⟩
theorem SOps.nilArrL {ops : Array Oper} {l : List Nat} {K : St → Prop} {s T k : Nat} (c : α → Nat → Cell) (d0 : α) (hs : look st.slots s = .c (.raw (.slice none 0 0))) (hN : Nat.blt s N.N = true)
  (h : SOps P N ops l ⟨(s, .c (.own st.objs.length ([] : List α).length)) :: st.slots, st.objs ++ [.arr T k ([] : List α).length (gL c d0 [])]⟩ K) : SOps P N ops l st K :=
 SOps.nilArr (T := T) (k := k) (g := gL c d0 []) hs hN h
theorem e_appendL {e' k bytes id : Nat} {z : Value} {l l2 : List α} {c2 : Cell} (ho : o.op = .call { callee := .builtin .append, args := #[x, y], argTypes := #[t, t] }) (hd : o.dst = some d) (hN : Nat.blt d N.N = true)
  (hx : evs st.slots x = .c (.own id l.length)) (hob : st.objs[id]? = some (.arr e' k l.length (gL c d0 l))) (hy : evs st.slots y = .c c2) (hc2 : c2 = .vec l2.length k (gL c d0 l2) ∨ (c2 = .raw (.slice none 0 0) ∧ l2 = []))
  (ht : slB P t e' k bytes = true) (hz : (P.info? e').map (·.zero) = some (some z)) (hzs : z.cells.size = k) (hk : Nat.blt 0 k = true)
  (h1 : ∀ a j, j < k → (c a j).one = true) (hb : (l.length + l2.length) * bytes ≤ 140737488355328) (h63 : l.length + l2.length ≤ 140737488355328) :
  EOp P N o st ⟨(d, .c (.own st.objs.length (l ++ l2).length)) :: st.slots, st.objs.set id .dead ++ [.arr e' k (l ++ l2).length (gL c d0 (l ++ l2))]⟩ := by
 rw [List.length_append]
 refine (e_append (get2 := gL c d0 l2) (m := l2.length) ho hd hN hx hob hy (hc2.imp (fun h => h) fun h => ⟨h.1, by rw [h.2]; rfl⟩) ht hz hzs hk (fun i _ j hj => h1 _ j hj) hb h63).sub ?_
 have hlast : (st.objs.set id .dead ++ [.arr e' k (l.length + l2.length) (appG l.length (gL c d0 l) (gL c d0 l2))])[st.objs.length]? = some (.arr e' k (l.length + l2.length) (appG l.length (gL c d0 l) (gL c d0 l2))) := by
  have := last_id (st.objs.set id .dead) (.arr e' k (l.length + l2.length) (appG l.length (gL c d0 l) (gL c d0 l2)))
  rwa [List.length_set] at this
 have := Sub.reArr (N := N) (st := ⟨(d, .c (.own st.objs.length (l.length + l2.length))) :: st.slots, st.objs.set id .dead ++ [.arr e' k (l.length + l2.length) (appG l.length (gL c d0 l) (gL c d0 l2))]⟩) (get' := gL c d0 (l ++ l2)) hlast
  (fun i hi j hj => by
   unfold appG gL
   rw [List.getD_eq_getElem?_getD (l := l ++ l2), List.getElem?_append]
   by_cases hi' : i < l.length
   ·rw [if_pos hi', if_pos hi', List.getD_eq_getElem?_getD]
   ·rw [if_neg hi', if_neg hi', List.getD_eq_getElem?_getD])
 have e2 := set_last (st.objs.set id .dead) (.arr e' k (l.length + l2.length) (appG l.length (gL c d0 l) (gL c d0 l2))) (.arr e' k (l.length + l2.length) (gL c d0 (l ++ l2)))
 rw [List.length_set] at e2
 rwa [e2] at this
theorem e_storeL {id T k i j m : Nat} {l : List α} {v : AV} {agg : Bool} (x' : α) (ho : o.op = .store t x y) (hd : o.dst = none) (hx : evs st.slots x = .c (.aptr id k i j)) (hob : st.objs[id]? = some (.arr T k l.length (gL c d0 l))) (hy : evs st.slots y = v)
  (hi : i < l.length) (ht : tyB P t agg m = true) (hm : v.cells.length = m) (h0 : v.cells.isEmpty = false) (h1 : v.cells.all Cell.one = true) (hp : v.cells.all Cell.pers = true) (hfit : Nat.ble (j + m) k = true)
  (hx' : (List.range k).map (fun j' => if j ≤ j' ∧ j' < j + m then v.cells.getD (j' - j) .any else c (l.getD i d0) j') = (List.range k).map (c x')) :
  EOp P N o st ⟨st.slots, st.objs.set id (.arr T k (l.set i x').length (gL c d0 (l.set i x')))⟩ := by
 rw [List.length_set]
 refine (e_store_arr ho hd hx hob hy hi ht hm h0 h1 hp hfit).sub ?_
 have hid : id < st.objs.length := (List.getElem?_eq_some_iff.1 hob).1
 have hnew : (st.objs.set id (.arr T k l.length (stG (gL c d0 l) i j m v.cells)))[id]? = some (.arr T k l.length (stG (gL c d0 l) i j m v.cells)) := by simp [hid]
 have := Sub.reArr (N := N) (st := ⟨st.slots, st.objs.set id (.arr T k l.length (stG (gL c d0 l) i j m v.cells))⟩) (get' := gL c d0 (l.set i x')) hnew
  (fun i' hi' j' hj' => by
   unfold stG gL
   rw [List.getD_eq_getElem?_getD (l := l.set i x'), List.getElem?_set]
   by_cases hii : i' = i
   ·subst hii
    rw [if_pos rfl, if_pos rfl, if_pos hi]
    exact rangeMap_get hx' j' hj'
   ·rw [if_neg hii, if_neg (fun h => hii h.symm), ← List.getD_eq_getElem?_getD])
 rwa [List.set_set] at this
end
theorem SCode.join {P : Program} {N : Fr} {x y : Code} {st : St} {Q : Exit → St → Prop} {σ : Type} (S : σ → St) (g : σ → Prop) (hy : ∀ s, g s → SCode P N y (S s) Q)
  (hx : SCode P N x st (thenQ (fun st' => ∃ s, g s ∧ Sub N st' (S s)) Q)) : SCode P N (.seq x y) st Q := by
 refine SCode.seq (hx.mono fun ex s hq => ?_)
 cases ex with
 | normal => obtain ⟨s', h1, h2⟩ := hq; exact SCode.sub h2 (hy s' h1)
 | exit id => exact hq
 | goto l => exact hq
 | ret => exact hq
 | panic c => exact hq
 | outgrown => exact hq
def guard {α : Type} (c : Prop) [Decidable c] (x : Option α) : Option α := if c then x else none
theorem guard_out {α : Type} {c : Prop} [Decidable c] {x : Option α} {r : α} (h : guard c x = some r) : c ∧ x = some r := by
 unfold guard at h
 split at h
 ·exact ⟨‹_›, h⟩
 ·cases h
theorem cond_out {α : Type} {b : Bool} {x y : Option α} {r : α} (h : (bif b then x else y) = some r) : (b = true ∧ x = some r) ∨ (b = false ∧ y = some r) := by
 cases b
 ·exact .inr ⟨rfl, h⟩
 ·exact .inl ⟨rfl, h⟩
theorem bind_out {α β : Type} {x : Option α} {f : α → Option β} {r : β} (h : x.bind f = some r) : ∃ a, x = some a ∧ f a = some r := by
 cases x with
 | none => cases h
 | some a => exact ⟨a, rfl, h⟩
end Go.Proofs.Ytoncfkdgddfnlaa.E
