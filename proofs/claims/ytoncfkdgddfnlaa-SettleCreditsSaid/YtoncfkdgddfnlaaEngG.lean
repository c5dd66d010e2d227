/- Slice literals, append; calls and returns. -/
import Derived.Test.YtoncfkdgddfnlaaEngF
namespace Go.Proofs.Ytoncfkdgddfnlaa.E
open Go Go.RowKit
set_option linter.unusedVariables false
def flatG (k : Nat) (cs : List Cell) (i j : Nat) : Cell := cs.getD (i * k + j) .any
theorem flat_rep {c c' : Ctx} {cs : List Cell} {arr : Array Value} (hle : c.Le c') (hL : RepL c true cs arr.toList) (hp : cs.all Cell.pers = true) {p : Nat} (h : p < cs.length) :
  ∃ y, arr[p]? = some y ∧ RepC c' false (cs.getD p .any) y := by
 have e1 : cs[p]? = some (cs.getD p .any) := by rw [List.getD_eq_getElem?_getD, List.getElem?_eq_getElem h]; rfl
 obtain ⟨u, hu, hrep⟩ := hL.get p _ e1
 exact ⟨u, by simpa using hu, RepC.down (RepC.mono hle _ _ _ hrep) (List.all_eq_true.1 hp _ (List.mem_of_getElem? e1))⟩
section
variable {P : Program} {N : Fr} {o : Oper} {st : St} {x y : Operand} {t : TypeId} {d : Nat} {ev : Operand → AV} {objs : List Ob}
theorem q_bslice {e' k bytes len : Nat} {z : Value} {ps : List (Nat × AV)} {parts : Array (Nat × Operand)} {cs : List Cell} (ho : o.op = .buildSlice t len parts) (hps : parts.toList.map (fun p => (p.1, ev p.2)) = ps)
  (ht : slB P t e' k bytes = true) (hz : (P.info? e').map (·.zero) = some (some z)) (hzs : z.cells.size = k) (hpos : Nat.blt 0 (len * k) = true) (hsm : Nat.ble (len * k) 16777216 = true) (hb : sliceC k len (z.cells.toList.map cellOf) ps = some cs)
  (hp : cs.all Cell.pers = true) : QOp P o ev objs (.c (.vec len k (flatG k cs))) := by
 intro e loc w a hr hh K Q hK
 obtain ⟨arr, hrun, hL, hlen⟩ := run_bslice ho hps ht hz hzs hpos hsm hb hh (w := w)
 unfold Oper.wp
 rw [hrun]
 refine hK _ _ (below_alloc w _) ⟨some ⟨w.heap.size, 0, none⟩, len, rfl, Nat.le_refl _, fun hn hk => ⟨w.heap.size, 0, rfl, ?_, fun i hi j hj => ?_⟩⟩
 ·rintro (hx | ⟨i, o', s, c, h1, h2, h3⟩)
  ·have := (hr.xlt _ hx).1
   have := hr.keep.size
   omega
  ·have := (hr.fresh i o' s _ c h1 h2 h3).1
   omega
 ·obtain ⟨y, hy, hrep⟩ := flat_rep (ctx_le_below (below_alloc w (.cells arr e'))) hL hp (p := i * k + j) (by rw [hlen]; exact idx_lt hi hj)
  refine ⟨y, ?_, hrep⟩
  show (w.alloc (.cells arr e')).cell? ⟨w.heap.size, 0 + i * k + j, none⟩ = some y
  rw [cell_of_heap (heap_new w _), Nat.zero_add]
  exact hy
def appG (n : Nat) (g h : Nat → Nat → Cell) (i j : Nat) : Cell := if i < n then g i j else h (i - n) j
theorem run_append_zero (w : World) (t ty e : TypeId) (i : TypeInfo) (ht : P.underlying t = some (.slice e)) (hi : P.info? e = some i) (base : Option Addr) (n c : Nat) (hn : n ≤ c) (src : Option Addr) (c2 : Nat) :
  (Builtin.append_ #[t, t] ty #[.slice base n c, .slice src 0 c2]).run P w = .ok (.slice base n c) w := by
 cases base <;> cases src <;> simp [Builtin.append_, run_underlying ht, sizeOf, typeInfo, hi, Builtin.lenOf, Builtin.firstCells, loadCells, loadCellsFrom, hn, storeCells]
theorem SOps.nilArr {ops : Array Oper} {l : List Nat} {K : St → Prop} {s T k : Nat} {g : Nat → Nat → Cell} (hs : look st.slots s = .c (.raw (.slice none 0 0))) (hN : Nat.blt s N.N = true)
  (h : SOps P N ops l ⟨(s, .c (.own st.objs.length 0)) :: st.slots, st.objs ++ [.arr T k 0 g]⟩ K) : SOps P N ops l st K := by
 intro e loc a w hr
 have hstep := hr.step (hr.heap.birth (Below.refl _ _) (.arr T k 0 g) none (fun b c h => by cases h) (fun _ => rfl))
 refine h e _ a w ⟨hstep.heap, hstep.size, hstep.base, hstep.n0le, hstep.defers, fun t => ?_⟩
 simp only [look_cons]
 by_cases ht : s = t
 ·subst ht
  rw [if_pos rfl]
  have h1 := hr.slot s
  rw [hs] at h1
  exact own_new (by simp) ⟨h1, rfl⟩
 ·rw [if_neg ht]
  exact hstep.slot t
theorem e_append {e' k bytes id n m : Nat} {z : Value} {get get2 : Nat → Nat → Cell} {c2 : Cell} (ho : o.op = .call { callee := .builtin .append, args := #[x, y], argTypes := #[t, t] }) (hd : o.dst = some d) (hN : Nat.blt d N.N = true)
  (hx : evs st.slots x = .c (.own id n)) (hob : st.objs[id]? = some (.arr e' k n get)) (hy : evs st.slots y = .c c2) (hc2 : c2 = .vec m k get2 ∨ (c2 = .raw (.slice none 0 0) ∧ m = 0))
  (ht : slB P t e' k bytes = true) (hz : (P.info? e').map (·.zero) = some (some z)) (hzs : z.cells.size = k) (hk : Nat.blt 0 k = true)
  (h1 : ∀ i, i < m → ∀ j, j < k → (get2 i j).one = true) (hb : (n + m) * bytes ≤ 140737488355328) (h63 : n + m ≤ 140737488355328) :
  EOp P N o st ⟨(d, .c (.own st.objs.length (n + m))) :: st.slots, st.objs.set id .dead ++ [.arr e' k (n + m) (appG n get get2)]⟩ := by
 intro e loc a w hr K Q hK
 have hk : 0 < k := by simpa [Nat.blt_eq] using hk
 obtain ⟨i, g1, g2, g3, g4⟩ := slB_out ht
 have hzz : i.zero = some z := by rw [g2] at hz; simpa using hz
 have h2 := hr.eval x; rw [hx] at h2
 have h3 := hr.eval y; rw [hy] at h3
 -- the source
 obtain ⟨src, c3, hsv, hsrc⟩ : ∃ src c3, a.eval y = .slice src m c3 ∧ (0 < m → ∃ b2 off, src = some ⟨b2, off, none⟩ ∧ ∃ news : List Value, news.length = m * k ∧ (∀ p u, news[p]? = some u → w.cell? ⟨b2, off + p, none⟩ = some u ∧ RepC (ctx e st.objs loc w) false (get2 (p / k) (p % k)) u)) := by
  rcases hc2 with rfl | ⟨rfl, rfl⟩
  ·obtain ⟨ad, c, hv, hnc, hp⟩ := h3
   refine ⟨ad, c, hv, fun hm => ?_⟩
   obtain ⟨b, off, rfl, hO, hcell⟩ := hp hm hk
   obtain ⟨news, hn1, hn2⟩ := pick_list (Q := fun p u => w.cell? ⟨b, off + p, none⟩ = some u ∧ RepC (ctx e st.objs loc w) false (get2 (p / k) (p % k)) u) (m * k) (fun p hp => by
    have hq : p / k < m := Nat.div_lt_of_lt_mul (by rw [Nat.mul_comm]; exact hp)
    obtain ⟨u, hu, hrep⟩ := hcell (p / k) hq (p % k) (Nat.mod_lt _ hk)
    have e1 : p / k * k + p % k = p := by rw [Nat.mul_comm]; exact Nat.div_add_mod p k
    refine ⟨u, ?_, hrep⟩
    rw [← hu]
    show _ = w.cell? ⟨b, off + p / k * k + p % k, none⟩
    rw [Nat.add_assoc, e1])
   exact ⟨b, off, rfl, news, hn1, hn2⟩
  ·exact ⟨none, 0, h3, fun h => absurd h (Nat.lt_irrefl 0)⟩
 have hexec : ∀ v, a.eval x = v → (execOp a.eval o).run P w = ((Builtin.append_ #[t, t] o.type #[v, .slice src m c3]).run P w).andThen fun u w' => .ok (.value u) w' := by
  intro v hv
  simp only [execOp, ho, resolve, invoke, builtin, Sem.run_bind, Sem.run_pure, Result.andThen_ok, List.map_toArray, List.map_cons, List.map_nil, hv, hsv]
 have honeN : ∀ (b2 off : Nat) (news : List Value), news.length = m * k → (∀ p u, news[p]? = some u → w.cell? ⟨b2, off + p, none⟩ = some u ∧ RepC (ctx e st.objs loc w) false (get2 (p / k) (p % k)) u) → ∀ u ∈ news, u.oneCell' = true := by
  intro b2 off news hlen hn u hu
  obtain ⟨p, hp⟩ := List.getElem?_of_mem hu
  have hlt : p < m * k := by rw [← hlen]; exact (List.getElem?_eq_some_iff.1 hp).1
  exact (RepC.one (hn p u hp).2 (h1 _ (Nat.div_lt_of_lt_mul (by rw [Nat.mul_comm]; exact hlt)) _ (Nat.mod_lt _ hk))).1
 obtain ⟨_, hB, hm⟩ := h2
 -- how it ends, once the new block is known
 have fin : ∀ (v' : Value) (w' : World) (l : Option (Nat × Nat)), (execOp a.eval o).run P w = .ok (.value v') w' → (match l with | none => v' = .slice none 0 0 ∧ n + m = 0 | some (b, c) => v' = .slice (some ⟨b, 0, none⟩) (n + m) c) →
   Step e st.objs loc w (st.objs.set id .dead ++ [.arr e' k (n + m) (appG n get get2)]) (locAdd loc st.objs.length l) w' → o.wp P a w K Q := by
  intro v' w' l hrun hv' hstep
  unfold Oper.wp
  rw [hrun]
  have hs := hr.step hstep
  have := hs.put (some d) (fun s hs => by cases hs; simpa [Nat.blt_eq] using hN) (v := .c (.own st.objs.length (n + m))) (u := v') (own_new (by simp) hv')
  rw [Oper.upon_value, hd]
  exact hK _ _ _ this
 -- the new cells, whatever lay behind them
 have newcells : ∀ (x' : Ctx) (olds news rest : List Value), (ctx e st.objs loc w).Le x' → olds.length = n * k → (∀ i, i < n → ∀ j, j < k → ∃ y, olds[i * k + j]? = some y ∧ RepC x' false (get i j) y) → news.length = m * k →
   (∀ p u, news[p]? = some u → RepC (ctx e st.objs loc w) false (get2 (p / k) (p % k)) u) → ∀ i, i < n + m → ∀ j, j < k → ∃ y, (olds ++ news ++ rest)[i * k + j]? = some y ∧ RepC x' false (appG n get get2 i j) y := by
  intro x' olds news rest hle hol hold hnl hnew i hi j hj
  by_cases hin : i < n
  ·obtain ⟨y, hy, hrep⟩ := hold i hin j hj
   refine ⟨y, ?_, by simpa [appG, hin] using hrep⟩
   rw [List.append_assoc, List.getElem?_append_left (by rw [hol]; exact idx_lt hin hj)]
   exact hy
  ·have hlt : (i - n) * k + j < m * k := idx_lt (by omega) hj
   have hge : n * k ≤ i * k := Nat.mul_le_mul_right k (by omega)
   have hsub : i * k + j - n * k = (i - n) * k + j := by rw [Nat.sub_mul]; omega
   refine ⟨news[(i - n) * k + j]'(by rw [hnl]; exact hlt), ?_, ?_⟩
   ·rw [List.getElem?_append_left (by simp [hol, hnl, ← Nat.add_mul]; exact idx_lt hi hj), List.getElem?_append_right (by rw [hol]; omega), hol, hsub]
    exact List.getElem?_eq_getElem _
   ·have := hnew ((i - n) * k + j) _ (List.getElem?_eq_getElem (by rw [hnl]; exact hlt))
    rw [idx_div hj, idx_mod hj] at this
    simpa [appG, hin] using RepC.mono hle _ _ _ this
 cases hl : loc id with
 | none =>
  have : (ctx e st.objs loc w).loc id = none := hl
  rw [this] at hm
  obtain ⟨hxv, hn0⟩ := hm
  subst hn0
  by_cases hm0 : m = 0
  ·subst hm0
   refine fin (.slice none 0 0) w none ?_ ⟨rfl, rfl⟩ ?_
   ·rw [hexec _ hxv, run_append_zero w t o.type e' i g1 g2 none 0 0 (Nat.le_refl _) src c3]; rfl
   ·exact hr.heap.move _ hob rfl none (Keep.refl _ _) (fun b c h => by cases h) (fun _ => rfl)
  ·obtain ⟨b2, off, rfl, news, hnl, hnew⟩ := hsrc (by omega)
   have hrunA := run_append_nil (P := P) w t o.type e' i z g1 g2 hzz ⟨b2, off, none⟩ m c3 news (by rw [hnl, g3]) (fun j v hv => by rw [Addr.add_mid]; exact (hnew j v hv).1) (by omega) (by omega) (by rw [g4]; have := hb; simp only [Nat.zero_add] at this; omega)
   have hcap := grownCap_ge w m 0 e'
   have hcm := grownCap_le_maxLen w m 0 e' (by unfold maxLen; omega)
   refine fin (.slice (some ⟨w.heap.size, 0, none⟩) m (grownCap w m 0 e')) _ (some (w.heap.size, grownCap w m 0 e')) (by rw [hexec _ hxv, hrunA]; rfl) (by simp) ?_
   refine hr.heap.move _ hob rfl _ ⟨rfl, rfl, rfl, by simp, fun k' hk' _ => (Below.heap_alloc w.drew _ k' hk')⟩ (fun b c h => by cases h; exact ⟨.inr (Nat.le_refl _), by simp⟩) (fun hle => ?_)
   refine ⟨_, heap_alloc_new w.drew _, ?_, by omega, hcm, ?_⟩
   ·simp only [Array.size_append, List.size_toArray, size_zeroCells, hzs, hnl, ← Nat.add_mul]
    congr 1; omega
   ·have := newcells _ [] news (Builtin.zeroCells z.cells (grownCap w m 0 e' - m)).toList hle (by simp) (fun i hi => absurd hi (Nat.not_lt_zero i)) hnl (fun p u hp => (hnew p u hp).2)
    intro i' hi' j' hj'
    obtain ⟨y', hy', hrep⟩ := this i' hi' j' hj'
    exact ⟨y', by rw [← Array.getElem?_toList]; simpa using hy', hrep⟩
 | some bc =>
  obtain ⟨b, c⟩ := bc
  have : (ctx e st.objs loc w).loc id = some (b, c) := hl
  rw [this] at hm
  have hxv : a.eval x = .slice (some ⟨b, 0, none⟩) n c := hm
  obtain ⟨arr, hh, hsz, hnc, hcm, hg⟩ := hr.heap.arr hob hl
  by_cases hm0 : m = 0
  ·subst hm0
   refine fin (.slice (some ⟨b, 0, none⟩) n c) w (some (b, c)) ?_ (by simp) ?_
   ·rw [hexec _ hxv, run_append_zero w t o.type e' i g1 g2 _ n c hnc src c3]; rfl
   ·refine hr.heap.move _ hob rfl _ (Keep.refl _ _) (fun b' c' h => by cases h; exact ⟨.inl ⟨c, hl⟩, (hr.heap.fresh id _ none b c hob rfl hl).1⟩) (fun hle => ?_)
    refine ⟨arr, hh, hsz, hnc, hcm, fun i' hi' j' hj' => ?_⟩
    obtain ⟨y', hy', hrep⟩ := hg i' hi' j' hj'
    have hi'' : i' < n := hi'
    exact ⟨y', hy', by simpa [appG, hi''] using RepC.mono hle _ _ _ hrep⟩
  ·obtain ⟨b2, off, rfl, news, hnl, hnew⟩ := hsrc (by omega)
   by_cases hroom : n + m ≤ c
   ·have hfit : n * i.size + news.length ≤ arr.size := by rw [hnl, hsz, g3, ← Nat.add_mul]; exact Nat.mul_le_mul_right _ hroom
    have hrunA := run_append_room (P := P) w t o.type e' i g1 g2 b n c arr hh ⟨b2, off, none⟩ m c3 news (by rw [hnl, g3]) (fun j v hv => by rw [Addr.add_mid]; exact (hnew j v hv).1) (honeN b2 off news hnl hnew) hroom hfit
    refine fin (.slice (some ⟨b, 0, none⟩) (n + m) c) _ (some (b, c)) (by rw [hexec _ hxv, hrunA]; rfl) (by simp) ?_
    obtain ⟨nw, hnw⟩ : ∃ nw : Array Value, nw = (arr.toList.take (n * i.size) ++ news ++ arr.toList.drop (n * i.size + news.length)).toArray := ⟨_, rfl⟩
    rw [← hnw]
    refine hr.heap.move _ hob rfl _ ((keep_setRow w b nw).mono (fun k' _ hk' => ⟨c, by rw [hk']; exact hl⟩)) (fun b' c' h => by
     cases h
     refine ⟨.inl ⟨c, hl⟩, ?_⟩
     have := (hr.heap.fresh id _ none b c hob rfl hl).1
     simpa [World.setRow] using this) (fun hle => ?_)
    refine ⟨nw, setRow_heap w b arr nw e' _ hh, ?_, hroom, hcm, ?_⟩
    ·rw [hnw]
     simp only [List.size_toArray, List.length_append, List.length_take, List.length_drop, Array.length_toList]
     rw [g3] at hfit ⊢
     omega
    ·have hle1 : n * k ≤ arr.toList.length := by rw [Array.length_toList, hsz]; exact Nat.mul_le_mul_right k hnc
     have := newcells _ (arr.toList.take (n * k)) news (arr.toList.drop (n * i.size + news.length)) hle (by rw [List.length_take, Nat.min_eq_left hle1]) (fun i' hi' j' hj' => by
      obtain ⟨y', hy', hrep⟩ := hg i' hi' j' hj'
      refine ⟨y', ?_, RepC.mono hle _ _ _ hrep⟩
      rw [List.getElem?_take_of_lt (idx_lt hi' hj')]; simpa using hy') hnl (fun p u hp => (hnew p u hp).2)
     intro i' hi' j' hj'
     obtain ⟨y', hy', hrep⟩ := this i' hi' j' hj'
     refine ⟨y', ?_, hrep⟩
     rw [hnw, List.getElem?_toArray, g3]
     rw [g3] at hy'
     exact hy'
   ·have holds : ∀ j v, (arr.toList.take (n * k))[j]? = some v → w.cell? ((⟨b, 0, none⟩ : Addr).add j) = some v := by
     intro j v hv
     rw [Addr.add_mid, cell_of_heap hh, Nat.zero_add]
     rw [List.getElem?_take] at hv
     split at hv
     ·simpa using hv
     ·cases hv
    have hle1 : n * k ≤ arr.toList.length := by rw [Array.length_toList, hsz]; exact Nat.mul_le_mul_right k hnc
    have hol : (arr.toList.take (n * k)).length = n * k := by rw [List.length_take, Nat.min_eq_left hle1]
    have hrunA := run_append_grow (P := P) w t o.type e' i z g1 g2 hzz ⟨b, 0, none⟩ n c (arr.toList.take (n * k)) (by rw [hol, g3]) holds ⟨b2, off, none⟩ m c3 news (by rw [hnl, g3]) (fun j v hv => by rw [Addr.add_mid]; exact (hnew j v hv).1) (by omega) (by omega) (growslice_fits (by omega) (by rw [g4]; exact hb))
    have hcap := grownCap_ge w (n + m) c e'
    have hcm2 := grownCap_le_maxLen w (n + m) c e' (by unfold maxLen; omega)
    refine fin (.slice (some ⟨w.heap.size, 0, none⟩) (n + m) (grownCap w (n + m) c e')) _ (some (w.heap.size, grownCap w (n + m) c e')) (by rw [hexec _ hxv, hrunA]; rfl) rfl ?_
    refine hr.heap.move _ hob rfl _ ⟨rfl, rfl, rfl, by simp, fun k' hk' _ => (Below.heap_alloc w.drew _ k' hk')⟩ (fun b c h => by cases h; exact ⟨.inr (Nat.le_refl _), by simp⟩) (fun hle => ?_)
    refine ⟨_, heap_alloc_new w.drew _, ?_, hcap, hcm2, ?_⟩
    ·simp only [Array.size_append, List.size_toArray, size_zeroCells, hzs, hnl, hol, ← Nat.add_mul]
     congr 1; omega
    ·have := newcells _ (arr.toList.take (n * k)) news (Builtin.zeroCells z.cells (grownCap w (n + m) c e' - (n + m))).toList hle hol (fun i' hi' j' hj' => by
      obtain ⟨y', hy', hrep⟩ := hg i' hi' j' hj'
      refine ⟨y', ?_, RepC.mono hle _ _ _ hrep⟩
      rw [List.getElem?_take_of_lt (idx_lt hi' hj')]; simpa using hy') hnl (fun p u hp => (hnew p u hp).2)
     intro i' hi' j' hj'
     obtain ⟨y', hy', hrep⟩ := this i' hi' j' hj'
     exact ⟨y', by rw [← Array.getElem?_toList]; simpa using hy', hrep⟩
end
end Go.Proofs.Ytoncfkdgddfnlaa.E
