/- The library's sort at int; structures compared; a slice compared to nil. -/
import Derived.Test.YthpblkclpfmbeaaEngO
import Derived.Sort.Grow
import Derived.Sort.Row
import Derived.Laws.StructEq
import Derived.ChangeKeysEq
import Derived.Laws.Shifts
namespace Go.Proofs.Ythpblkclpfmbeaa.E
open Go Go.RowKit
set_option linter.unusedVariables false

def insI (x : Int) : List Int → List Int
  | [] => [x]
  | y :: r => bif decide (x ≤ y) then x :: y :: r else y :: insI x r
def sortI : List Int → List Int
  | [] => []
  | x :: r => insI x (sortI r)

theorem insI_perm (x : Int) : ∀ l : List Int, (insI x l).Perm (x :: l)
  | [] => List.Perm.refl _
  | y :: r => by
    simp only [insI]
    cases decide (x ≤ y) with
    | true => exact List.Perm.refl _
    | false => exact ((insI_perm x r).cons y).trans (List.Perm.swap x y r)
theorem sortI_perm : ∀ l : List Int, (sortI l).Perm l
  | [] => List.Perm.refl _
  | x :: r => (insI_perm x (sortI r)).trans ((sortI_perm r).cons x)
theorem insI_sorted (x : Int) : ∀ l : List Int, l.Pairwise (· ≤ ·) → (insI x l).Pairwise (· ≤ ·)
  | [], _ => by simp [insI]
  | y :: r, h => by
    rw [List.pairwise_cons] at h
    simp only [insI]
    cases hd : decide (x ≤ y) with
    | true =>
      have hxy := of_decide_eq_true hd
      simp only [cond_true, List.pairwise_cons]
      refine ⟨fun z hz => ?_, h⟩
      cases hz with
      | head => exact hxy
      | tail _ hz => exact Int.le_trans hxy (h.1 z hz)
    | false =>
      have hxy := of_decide_eq_false hd
      simp only [cond_false, List.pairwise_cons]
      refine ⟨fun z hz => ?_, insI_sorted x r h.2⟩
      have := (insI_perm x r).mem_iff.1 hz
      cases this with
      | head => omega
      | tail _ hz => exact h.1 z hz
theorem sortI_sorted : ∀ l : List Int, (sortI l).Pairwise (· ≤ ·)
  | [] => List.Pairwise.nil
  | x :: r => insI_sorted x _ (sortI_sorted r)
theorem sortI_eq (l : List Int) : (l.mergeSort fun x y => decide (x ≤ y)) = sortI l := by
  refine List.Perm.eq_of_pairwise (le := fun a b : Int => a ≤ b) (fun a b _ _ h1 h2 => Int.le_antisymm h1 h2) ?_ (sortI_sorted l) ((List.mergeSort_perm l _).trans (sortI_perm l).symm)
  have := List.pairwise_mergeSort (le := fun x y : Int => decide (x ≤ y)) (fun a b c h1 h2 => by simp at *; omega) (fun a b => by simp; omega) l
  exact this.imp (fun h => by simpa using h)
theorem sortI_len (l : List Int) : (sortI l).length = l.length := (sortI_perm l).length_eq

theorem sfun_sort {P : Program} {f : FuncId} {T : TypeId}
    (hs : ∀ (blk off cap : Nat) (zs : List Int) (w : World), Go.Sort.Holds (Value.int .i64) w blk off zs.toArray → blk < w.heap.size → zs.length < 4611686018427387904 → Calls P f #[.slice (some ⟨blk, off, none⟩) zs.length cap] w fun e w' =>
      e = .returned (.tuple #[]) ∧ ∃ n os, w' = Go.Sort.grow (Go.Sort.putRow (Value.int .i64) (Go.Sort.ahead w n) blk off (zs.mergeSort fun x y => decide (x ≤ y)).toArray) os)
    (hn : ∀ (p : Option Addr) (cap : Nat) (w : World), Calls P f #[.slice p 0 cap] w fun e w' => e = .returned (.tuple #[]) ∧ w' = w)
    (l : List Int) (hsz : l.length < 4611686018427387904) :
    SFun P f [.arr T 1 l.length (gL (cInt .i64) 0 l)] [.c (.own 0 l.length)] (fun x os => x = .t [] ∧ os = [.arr T 1 (sortI l).length (gL (cInt .i64) 0 (sortI l))]) := by
  intro e loc w vals hw hM hl hr hA
  cases vals with
  | nil => exact hA.elim
  | cons v vs =>
    cases vs with
    | cons _ _ => exact hA.2.elim
    | nil =>
      obtain ⟨_, _, hm⟩ := hA.1
      have hrep := hr.rep 0 _ rfl
      have hlen : (sortI l).length = l.length := sortI_len l
      cases hloc : loc 0 with
      | none =>
        have h1 : (ctx e [.arr T 1 l.length (gL (cInt .i64) 0 l)] loc w).loc 0 = none := hloc
        rw [h1] at hm
        obtain ⟨rfl, h0⟩ := hm
        have hl0 : l = [] := List.length_eq_zero_iff.1 h0
        subst hl0
        refine (hn none 0 w).mono ?_
        rintro en w' ⟨rfl, rfl⟩
        exact ⟨_, .t [], _, loc, rfl, ⟨rfl, rfl⟩, by simpa [sortI] using hr, ⟨_, rfl, trivial⟩, Nat.le_refl _, fun _ _ => rfl⟩
      | some bc =>
        obtain ⟨b, c⟩ := bc
        have h1 : (ctx e [.arr T 1 l.length (gL (cInt .i64) 0 l)] loc w).loc 0 = some (b, c) := hloc
        rw [h1] at hm
        have hm' : v = .slice (some ⟨b, 0, none⟩) l.length c := hm
        subst hm'
        rw [hloc] at hrep
        obtain ⟨arr, hh, hsz2, hnc, hcm, hg⟩ := hrep
        have hh' : w.heap[b]? = some (.cells arr T (0, 0)) := hh
        have hbl : b < w.heap.size := (Array.getElem?_eq_some_iff.1 hh').1
        have hcell : ∀ j, j < l.length → arr[j]? = some (.int .i64 (l.getD j 0)) := by
          intro j hj
          obtain ⟨y, hy, hr2⟩ := hg j hj 0 (by decide)
          have : y = .int .i64 (l.getD j 0) := hr2
          subst this
          simpa using hy
        have hH : Go.Sort.Holds (Value.int .i64) w b 0 l.toArray := by
          intro j hj
          have hj' : j < l.length := by simpa using hj
          refine ⟨?_, by simp [World.frozen?, hh']⟩
          have h2 := hcell j hj'
          simp only [World.cell?, hh', Nat.zero_add]
          simp only [Option.isSome_none, Bool.false_eq_true, if_false]
          rw [h2]
          congr 2
          rw [List.getD_eq_getElem?_getD, List.getElem?_eq_getElem hj']
          simp [hj']
        refine (hs b 0 c l w hH hbl hsz).mono ?_
        rintro en w' ⟨rfl, n, os, rfl⟩
        obtain ⟨ys, hys⟩ : ∃ ys, ys = sortI l := ⟨_, rfl⟩
        rw [sortI_eq, ← hys]
        have hylen : ys.length = l.length := by rw [hys]; exact sortI_len l
        obtain ⟨w', hw'⟩ : ∃ w', w' = Go.Sort.grow (Go.Sort.putRow (Value.int .i64) (Go.Sort.ahead w n) b 0 ys.toArray) os := ⟨_, rfl⟩
        rw [← hw']
        have hheap : ∀ k, k < w.heap.size → w'.heap[k]? = (w.heap.modify b (Go.Sort.onCells (Go.Sort.putCells (Value.int .i64) 0 ys.toArray)))[k]? := by
          intro k hk
          rw [hw']
          show ((w.heap.modify b _) ++ os)[k]? = _
          rw [Array.getElem?_append_left (by simpa using hk)]
        have hk : Keep (fun k => k = b) w w' := by
          refine ⟨by rw [hw']; rfl, by rw [hw']; rfl, by rw [hw']; rfl, ?_, fun k hk hne => ?_⟩
          · rw [hw']
            show w.heap.size ≤ ((w.heap.modify b _) ++ os).size
            simp
          · rw [hheap k hk, Array.getElem?_modify, if_neg (Ne.symm hne)]
        have hnew : w'.heap[b]? = some (.cells (Go.Sort.putCells (Value.int .i64) 0 ys.toArray arr) T (0, 0)) := by
          rw [hheap b hbl, Array.getElem?_modify, if_pos rfl, hh']
          rfl
        have hs := hr.write (id := 0) (o' := .arr T 1 ys.length (gL (cInt .i64) 0 ys)) rfl rfl hloc hk (fun hle => by
          rw [hloc]
          refine ⟨_, hnew, by simp [Go.Sort.putCells]; omega, by omega, hcm, fun i hi j hj => ?_⟩
          have hi' : i < l.length := by omega
          obtain ⟨rfl⟩ : j = 0 := by omega
          refine ⟨.int .i64 (ys.getD i 0), ?_, rfl⟩
          have h2 := hcell i hi'
          simp only [Nat.mul_one, Nat.add_zero, Go.Sort.putCells, Array.getElem?_mapIdx, h2, Option.map_some]
          rw [if_pos ⟨Nat.zero_le _, by simpa using hi⟩]
          simp [hi, List.getD_eq_getElem?_getD])
        exact ⟨_, .t [], _, loc, rfl, ⟨rfl, rfl⟩, hs.rep, ⟨_, rfl, trivial⟩, Nat.le_refl _, fun _ _ => rfl⟩

/-! ### Structures of numbers, texts and truth values, compared -/
section
variable {P : Program} {N : Fr} {o : Oper} {st : St} {x y : Operand} {t : TypeId} {d : Nat} {ev : Operand → AV} {objs : List Ob}

theorem q_shift {k yk : IntKind} {m n r : Int} {op : BinOp} {t2 : TypeId} (ho : o.op = .binOp op t x y t2) (hx : ev x = .c (.int k m)) (hy : ev y = .c (.int yk n)) (hop : op = .shl ∨ op = .shr)
    (h : Op.shift op k m yk n = pure (.int k r)) : QOp P o ev objs (.c (.int k r)) := by
  refine QOp.of_run fun e loc w a hr hh => ?_
  have h1 := hh x (by simp [ho, Op.operands]); rw [hx] at h1
  have h2 := hh y (by simp [ho, Op.operands]); rw [hy] at h2
  have h1' : a.eval x = .int k m := h1
  have h2' : a.eval y = .int yk n := h2
  have hg : (eqGuard op t x y (.int k m) (.int yk n)).run P w = .ok () w := by rcases hop with rfl | rfl <;> rfl
  have hb : binOp op t (.int k m) (.int yk n) = pure (.int k r) := by rcases hop with rfl | rfl <;> simp [binOp, h]
  refine ⟨.int k r, ?_, rfl⟩
  simp only [execOp, ho, h1', h2', Sem.run_bind, hg, hb, Result.andThen_ok, Sem.run_pure]
theorem q_shr {k yk : IntKind} {m n : Int} {t2 : TypeId} (ho : o.op = .binOp .shr t x y t2) (hx : ev x = .c (.int k m)) (hy : ev y = .c (.int yk n)) (h0 : 0 ≤ n) : QOp P o ev objs (.c (.int k (m / 2 ^ min n.toNat k.bits))) :=
  q_shift ho hx hy (.inr rfl) (shift_shr_any k yk m n h0)

/-- A slice compared to nil: whatever comes, a nil slice has no element. -/
theorem SOps.nilcmp {te : TypeId} {ops : Array Oper} {i : Nat} {rest : List Nat} {K : St → Prop} {n k : Nat} {get : Nat → Nat → Cell} {t2 : TypeId} (hoi : ops[i]? = some o) (hg : Runs ops st o) (ho : o.op = .binOp .eql t x y t2) (hd : o.dst = some d) (hN : Nat.blt d N.N = true)
    (hx : evs st.slots x = .c (.vec n k get)) (hy : evs st.slots y = .c (.raw (.slice none 0 0)))
    (ht : P.underlying t = some (.slice te)) (hk : 0 < k) (h1 : n = 0 → SOps P N ops rest ⟨(d, .c (.bool true)) :: st.slots, st.objs⟩ K) (h2 : SOps P N ops rest ⟨(d, .c (.bool false)) :: st.slots, st.objs⟩ K) : SOps P N ops (i :: rest) st K := by
  intro e loc a w hr
  simp only [wpOps, hoi]
  rw [if_pos (hg.wanted hr)]
  refine .inl ?_
  have g1 := hr.eval x; rw [hx] at g1
  have g2 := hr.eval y; rw [hy] at g2
  obtain ⟨ad, c, hv, hc, hp⟩ := g1
  have hv2 : a.eval y = .slice none 0 0 := g2
  obtain ⟨b, hb, hb0⟩ : ∃ b, (execOp a.eval o).run P w = .ok (.value (.bool b)) w ∧ (b = true → n = 0) := by
    refine ⟨ad.isNone, ?_, fun hb => ?_⟩
    · have hgd : (eqGuard .eql t x y (.slice ad n c) (.slice none 0 0)).run P w = .ok () w := rfl
      have hbin : (binOp .eql t (.slice ad n c) (.slice none 0 0)).run P w = .ok (.bool ad.isNone) w := by
        show (do pure (Value.bool (← Op.equal t (.slice ad n c) (.slice none 0 0))) : Sem Value).run P w = _
        have hq : (Op.equal t (.slice ad n c) (.slice none 0 0)).run P w = .ok ad.isNone w := by
          have key : ∀ d, (Op.equalIn (d + 1) t (.slice ad n c) (.slice none 0 0)).run P w = .ok ad.isNone w := fun d => by
            cases ad <;> simp [Op.equalIn, run_underlying ht]
          exact key 9999
        simp only [Sem.run_bind, hq, Result.andThen_ok, Sem.run_pure]
      simp only [execOp, ho, hv, hv2, Sem.run_bind, hgd, hbin, Result.andThen_ok, Sem.run_pure]
    · cases ad with
      | some ad => cases hb
      | none =>
        by_cases hn0 : n = 0
        · exact hn0
        · by_cases hk0 : k = 0
          · exact absurd hk0 (by omega)
          · obtain ⟨b, off, h, _⟩ := hp (by omega) (by omega)
            cases h
  unfold Oper.wp
  rw [hb, Oper.upon_value, hd]
  have hput : ∀ b', SRep e N ⟨(d, .c (.bool b')) :: st.slots, st.objs⟩ loc (a.put (some d) (.bool b')) w := fun b' => hr.put (some d) (fun s hs => by cases hs; simpa [Nat.blt_eq] using hN) (v := .c (.bool b')) rfl
  cases b with
  | true => exact h1 (hb0 rfl) e loc _ _ (hput true)
  | false => exact h2 e loc _ _ (hput false)
end
end Go.Proofs.Ythpblkclpfmbeaa.E
