/- Regions that draw their order: straight operations in any order, then a forced tail. -/
import Derived.Test.YtoncfkdgddfnlaaEngH
namespace Go.Proofs.Ytoncfkdgddfnlaa.E
open Go Go.RowKit
set_option linter.unusedVariables false
def putS (s : List (Nat × AV)) (d : Option Tmp) (v : AV) : List (Nat × AV) :=
 match d with
 | some d => (d, v) :: s
 | none => s
theorem put_eq (s : List (Nat × AV)) (objs : List Ob) (d : Option Tmp) (v : AV) : St.put ⟨s, objs⟩ d v = ⟨putS s d v, objs⟩ := by cases d <;> rfl
theorem look_putS (s : List (Nat × AV)) (d : Option Tmp) (v : AV) (t : Nat) : look (putS s d v) t = if d = some t then v else look s t := by
 cases d with
 | none => simp [putS]
 | some d => simp [putS, look_cons]
def Skips (ops : Array Oper) (s : List (Nat × AV)) (o : Oper) : Prop :=
 ∃ g t b, o.guard = some (g, b) ∧ (ops[g]?).bind (·.dst) = some t ∧ NotB b (look s t)
inductive QChain (P : Program) (N : Nat) (ops : Array Oper) (objs : List Ob) : Nat → Nat → List (Nat × AV) → List (Nat × AV) → Prop
 | nil (i : Nat) (s : List (Nat × AV)) : QChain P N ops objs i i s s
 | run {i m : Nat} {s s' : List (Nat × AV)} {o : Oper} {v : AV} (ho : ops[i]? = some o) (hg : Runs ops ⟨s, objs⟩ o) (hd : dstOk N o.dst = true) (q : QOp P o (evs s) objs v) (k : QChain P N ops objs (i + 1) m (putS s o.dst v) s') : QChain P N ops objs i m s s'
 | skip {i m : Nat} {s s' : List (Nat × AV)} {o : Oper} (ho : ops[i]? = some o) (hg : Skips ops s o) (hd : dstOk N o.dst = true) (k : QChain P N ops objs (i + 1) m (putS s o.dst (.c (.raw (.tuple #[])))) s') : QChain P N ops objs i m s s'
def slD (D : Nat → Bool) (s0 : List (Nat × AV)) (dst : Nat → Option Tmp) (V : Nat → AV) : Nat → List (Nat × AV)
 | 0 => s0
 | i + 1 => match D i with
  | true => putS (slD D s0 dst V i) (dst i) (V i)
  | false => slD D s0 dst V i
def dstAt (ops : Array Oper) (i : Nat) : Option Tmp := (ops[i]?).bind (·.dst)
theorem QChain.out {P : Program} {N : Nat} {ops : Array Oper} {objs : List Ob} {i m : Nat} {s s' : List (Nat × AV)} (h : QChain P N ops objs i m s s') : i ≤ m ∧ ∃ F : Nat → List (Nat × AV), F i = s ∧ F m = s' ∧
  ∀ j, i ≤ j → j < m → ∃ o v, ops[j]? = some o ∧ dstOk N o.dst = true ∧ F (j + 1) = putS (F j) o.dst v ∧ ((Runs ops ⟨F j, objs⟩ o ∧ QOp P o (evs (F j)) objs v) ∨ (Skips ops (F j) o ∧ v = .c (.raw (.tuple #[])))) := by
 induction h with
 | nil i s => exact ⟨Nat.le_refl _, fun _ => s, rfl, rfl, fun j h1 h2 => by omega⟩
 | @run i m s s' o v ho hg hd q k ih =>
  obtain ⟨him, F, h1, h2, h3⟩ := ih
  refine ⟨by omega, fun j => if j ≤ i then s else F j, by simp, ?_, fun j hj1 hj2 => ?_⟩
  ·simp only [show ¬ m ≤ i by omega, if_false]; exact h2
  ·by_cases hj : j = i
   ·subst hj
    refine ⟨o, v, ho, hd, ?_, .inl ⟨by simpa using hg, by simpa using q⟩⟩
    simp [show ¬ j + 1 ≤ j by omega, h1]
   ·obtain ⟨o', v', g1, g2, g3, g4⟩ := h3 j (by omega) hj2
    refine ⟨o', v', g1, g2, ?_, ?_⟩
    ·simp only [show ¬ j + 1 ≤ i by omega, show ¬ j ≤ i by omega, if_false]; exact g3
    ·simp only [show ¬ j ≤ i by omega, if_false]; exact g4
 | @skip i m s s' o ho hg hd k ih =>
  obtain ⟨him, F, h1, h2, h3⟩ := ih
  refine ⟨by omega, fun j => if j ≤ i then s else F j, by simp, ?_, fun j hj1 hj2 => ?_⟩
  ·simp only [show ¬ m ≤ i by omega, if_false]; exact h2
  ·by_cases hj : j = i
   ·subst hj
    refine ⟨o, .c (.raw (.tuple #[])), ho, hd, ?_, .inr ⟨by simpa using hg, rfl⟩⟩
    simp [show ¬ j + 1 ≤ j by omega, h1]
   ·obtain ⟨o', v', g1, g2, g3, g4⟩ := h3 j (by omega) hj2
    refine ⟨o', v', g1, g2, ?_, ?_⟩
    ·simp only [show ¬ j + 1 ≤ i by omega, show ¬ j ≤ i by omega, if_false]; exact g3
    ·simp only [show ¬ j ≤ i by omega, if_false]; exact g4
def readsOf (ops : Array Oper) (o : Oper) : List Nat :=
 (o.op.operands.toList.filterMap fun | .tmp t => some t | _ => none) ++
 (match o.guard with
 | some (g, _) => ((ops[g]?).bind (·.dst)).toList
 | none => [])
def memB (l : List Nat) (x : Nat) : Bool := l.any (Nat.beq x)
theorem memB_out {l : List Nat} {x : Nat} (h : memB l x = true) : x ∈ l := by
 obtain ⟨y, hy, he⟩ := List.any_eq_true.1 h
 rw [Nat.eq_of_beq_eq_true he]
 exact hy
theorem memB_in {l : List Nat} {x : Nat} (h : x ∈ l) : memB l x = true := List.any_eq_true.2 ⟨x, h, by simp⟩
def ancAt (anc : List (List Nat)) (i : Nat) : List Nat := anc.getD i []
def edgesB (ops : Array Oper) (anc : List (List Nat)) (i : Nat) : Bool :=
 match ops[i]? with
 | none => false
 | some o => (o.after.toList.all fun e => !(Region.binds .any e) || Nat.blt e.on i) &&
  ((ancAt anc i).all fun j => o.after.toList.any fun e => Region.binds .any e && (Nat.beq e.on j || memB (ancAt anc e.on) j))
def touch (a b : Option Nat) : Bool :=
 match a, b with
 | some x, some y => Nat.beq x y
 | _, _ => false
def clashB (ops : Array Oper) (i j : Nat) : Bool :=
 match ops[i]?, ops[j]? with
 | some a, some b => touch a.dst b.dst || ((readsOf ops b).any fun t => touch a.dst (some t)) || ((readsOf ops a).any fun t => touch b.dst (some t))
 | _, _ => true
def drawB (ops : Array Oper) (anc : List (List Nat)) (m : Nat) : Bool :=
 Nat.ble m ops.size && ((List.range ops.size).all fun j => edgesB ops anc j && ((List.range j).all fun i => memB (ancAt anc j) i || (Nat.blt j m && !(clashB ops i j))))
section
variable {ops : Array Oper} {anc : List (List Nat)} {m : Nat}
theorem drawB_le (h : drawB ops anc m = true) : m ≤ ops.size := by
 simp only [drawB, Bool.and_eq_true] at h
 exact Nat.le_of_ble_eq_true h.1
theorem drawB_edges (h : drawB ops anc m = true) {j : Nat} (hj : j < ops.size) : edgesB ops anc j = true := by
 simp only [drawB, Bool.and_eq_true] at h
 have := List.all_eq_true.1 h.2 j (List.mem_range.2 hj)
 simp only [Bool.and_eq_true] at this
 exact this.1
theorem drawB_pair (h : drawB ops anc m = true) {i j : Nat} (hj : j < ops.size) (hi : i < j) : i ∈ ancAt anc j ∨ (j < m ∧ clashB ops i j = false) := by
 simp only [drawB, Bool.and_eq_true] at h
 have := List.all_eq_true.1 h.2 j (List.mem_range.2 hj)
 simp only [Bool.and_eq_true] at this
 have := List.all_eq_true.1 this.2 i (List.mem_range.2 hi)
 simp only [Bool.or_eq_true, Bool.and_eq_true, Bool.not_eq_true'] at this
 rcases this with h1 | ⟨h1, h2⟩
 ·exact .inl (memB_out h1)
 ·exact .inr ⟨by simpa [Nat.blt_eq] using h1, h2⟩
theorem edge_lt (h : drawB ops anc m = true) {j : Nat} {o : Oper} (ho : ops[j]? = some o) {e : Edge} (he : e ∈ o.after.toList) (hb : Region.binds .any e = true) : e.on < j := by
 have hj : j < ops.size := (Array.getElem?_eq_some_iff.1 ho).1
 have h1 := drawB_edges h hj
 simp only [edgesB, ho, Bool.and_eq_true] at h1
 have := List.all_eq_true.1 h1.1 e he
 simpa [Nat.blt_eq, hb] using this
theorem anc_done (h : drawB ops anc m = true) (D : Nat → Bool) (hD : ∀ i o, D i = true → ops[i]? = some o → ∀ e ∈ o.after.toList, Region.binds .any e = true → D e.on = true) :
  ∀ (j : Nat) (o : Oper), ops[j]? = some o → (∀ e ∈ o.after.toList, Region.binds .any e = true → D e.on = true) → ∀ i, i ∈ ancAt anc j → D i = true := by
 intro j
 induction j using Nat.strongRecOn with
 | _ j ih =>
  intro o ho hp i hi
  have hj : j < ops.size := (Array.getElem?_eq_some_iff.1 ho).1
  have h1 := drawB_edges h hj
  simp only [edgesB, ho, Bool.and_eq_true] at h1
  have h2 := List.all_eq_true.1 h1.2 i hi
  obtain ⟨e, he, hb⟩ := List.any_eq_true.1 h2
  simp only [Bool.and_eq_true, Bool.or_eq_true] at hb
  have hDe := hp e he hb.1
  rcases hb.2 with h3 | h3
  ·rw [← Nat.eq_of_beq_eq_true h3]; exact hDe
  ·have hlt := edge_lt h ho he hb.1
   have hlt2 : e.on < ops.size := by omega
   exact ih e.on hlt ops[e.on] (Array.getElem?_eq_getElem hlt2) (fun e' he' hb' => hD e.on _ hDe (Array.getElem?_eq_getElem hlt2) e' he' hb') i (memB_out h3)
theorem ready_mem {listed : Array Bool} {i : Nat} : i ∈ Region.ready .any ops listed ↔ i < ops.size ∧ listed.getD i true = false ∧ ∃ o, ops[i]? = some o ∧ ∀ e ∈ o.after.toList, Region.binds .any e = true → listed.getD e.on false = true := by
 unfold Region.ready
 rw [List.mem_filter, List.mem_range]
 constructor
 ·rintro ⟨h1, h2⟩
  simp only [Bool.and_eq_true, Bool.not_eq_true'] at h2
  refine ⟨h1, h2.1, ops[i], Array.getElem?_eq_getElem h1, fun e he hb => ?_⟩
  have h3 := h2.2
  rw [Array.getElem?_eq_getElem h1] at h3
  simp only [Option.map_some, Option.getD_some] at h3
  have h4 := (Array.all_eq_true_iff_forall_mem.1 h3) e (by simpa using he)
  simpa [hb] using h4
 ·rintro ⟨h1, h2, o, ho, h3⟩
  refine ⟨h1, ?_⟩
  rw [h2, ho]
  simp only [Bool.not_false, Bool.true_and, Option.map_some, Option.getD_some]
  rw [Array.all_eq_true_iff_forall_mem]
  intro e he
  cases hb : Region.binds .any e with
  | false => rfl
  | true => simp [h3 e (by simpa using he) hb]
end
theorem look_slD (D : Nat → Bool) (s0 : List (Nat × AV)) (dst : Nat → Option Tmp) (V : Nat → AV) (i t : Nat) :
  look (slD D s0 dst V (i + 1)) t = if D i = true ∧ dst i = some t then V i else look (slD D s0 dst V i) t := by
 simp only [slD]
 cases hD : D i with
 | true => simp [look_putS]
 | false => simp
theorem least_false {n : Nat} {p : Nat → Bool} (h : ∃ i, i < n ∧ p i = false) : ∃ i, i < n ∧ p i = false ∧ ∀ j, j < i → p j = true := by
 induction n with
 | zero => obtain ⟨i, hi, _⟩ := h; omega
 | succ n ih =>
  by_cases hn : ∃ i, i < n ∧ p i = false
  ·obtain ⟨i, h1, h2, h3⟩ := ih hn
   exact ⟨i, by omega, h2, h3⟩
  ·obtain ⟨i, h1, h2⟩ := h
   have : i = n := by
    rcases Nat.lt_or_ge i n with h3 | h3
    ·exact absurd ⟨i, h3, h2⟩ hn
    ·omega
   subst this
   exact ⟨i, h1, h2, fun j hj => by
    cases hp : p j with
    | true => rfl
    | false => exact absurd ⟨j, hj, hp⟩ hn⟩
section
variable {P : Program} {N : Fr} {ops : Array Oper} {anc : List (List Nat)} {m : Nat}
theorem tail_any (h : drawB ops anc m = true) {Q : Exit → Act → World → Prop} : ∀ (k i fuel : Nat) (listed : Array Bool) (a : Act) (w : World), i + k = ops.size → m ≤ i → k ≤ fuel → listed.size = ops.size →
  (∀ j, j < ops.size → listed.getD j false = decide (j < i)) → wpOps P ops Q (List.range' i k) a w → wpAny P .any ops Q fuel listed a w := by
 intro k
 induction k with
 | zero =>
  intro i fuel listed a w hik hm hf hs hl hw
  have hready : Region.ready .any ops listed = [] := by
   apply List.eq_nil_iff_forall_not_mem.2
   intro j hj
   obtain ⟨h1, h2, _⟩ := ready_mem.1 hj
   have h3 := hl j h1
   have : listed.getD j true = listed.getD j false := by simp [Array.getD, hs, h1]
   rw [this, h3] at h2
   simp at h2
   omega
  cases fuel with
  | zero => exact ⟨hready, hw⟩
  | succ fuel => exact ⟨fun _ => hw, fun j hj => by rw [hready] at hj; cases hj⟩
 | succ k ih =>
  intro i fuel listed a w hik hm hf hs hl hw
  cases fuel with
  | zero => omega
  | succ fuel =>
   have hi : i < ops.size := by omega
   have hin : i ∈ Region.ready .any ops listed := by
    refine ready_mem.2 ⟨hi, ?_, ops[i], Array.getElem?_eq_getElem hi, fun e he hbe => ?_⟩
    ·have : listed.getD i true = listed.getD i false := by simp [Array.getD, hs, hi]
     rw [this, hl i hi]; simp
    ·have := edge_lt h (Array.getElem?_eq_getElem hi) he hbe
     rw [hl e.on (by omega)]; simpa using this
   refine ⟨fun h0 => (by rw [h0] at hin; cases hin), fun j hj => ?_⟩
   obtain ⟨h1, h2, o, ho, hp⟩ := ready_mem.1 hj
   have hji : j = i := by
    have h3 := hl j h1
    have : listed.getD j true = listed.getD j false := by simp [Array.getD, hs, h1]
    rw [this, h3] at h2
    simp at h2
    rcases Nat.lt_or_ge i j with hlt | hge
    ·exfalso
     have hD : ∀ q o, listed.getD q false = true → ops[q]? = some o → ∀ e ∈ o.after.toList, Region.binds .any e = true → listed.getD e.on false = true := by
      intro q o hq hoq e he hbe
      have hq' : q < ops.size := (Array.getElem?_eq_some_iff.1 hoq).1
      have := edge_lt h hoq he hbe
      rw [hl q hq'] at hq
      simp at hq
      rw [hl e.on (by omega)]; simp; omega
     rcases drawB_pair h h1 hlt with h4 | ⟨h4, _⟩
     ·have h6 : listed.getD i false = true := anc_done h (fun q => listed.getD q false) hD j o ho hp i h4
      have h5 := hl i hi
      rw [h6] at h5
      simp at h5
     ·omega
    ·omega
   subst hji
   rw [List.range'_succ, wpOps_cons] at hw
   refine wpOp_mono (fun a w hw => ?_) hw
   refine ih (j + 1) fuel _ a w (by omega) (by omega) (by omega) (by simp [hs]) (fun q hq => ?_) hw
   by_cases hqj : q = j
   ·subst hqj; simp [Array.getD, hs, hq]
   ·have : (listed.setIfInBounds j true).getD q false = listed.getD q false := by
     simp [Array.getD_eq_getD_getElem?, Array.getElem?_setIfInBounds_ne (Ne.symm hqj)]
    rw [this, hl q hq]
    simp; omega
theorem SCode.draw {id : Nat} {st : St} {s' : List (Nat × AV)} {Q : Exit → St → Prop} (hm : P.follows .mixedOrders = true) (anc : List (List Nat)) (m k : Nat) (hk : Nat.beq (m + k) ops.size = true) (hd : drawB ops anc m = true)
  (hq : QChain P N.N ops st.objs 0 m st.slots s') (ht : SOps P N ops (List.range' m k) ⟨s', st.objs⟩ (Q .normal)) : SCode P N (.region id ops true) st Q := by
 intro e loc a w hr
 have hk := Nat.eq_of_beq_eq_true hk
 have hmn := drawB_le hd
 obtain ⟨_, F, hF0, hFm, hF⟩ := hq.out
 have hr0 : SRep e N st loc a w.drew := hr.below ((Below.refl _ _).drew)
 refine wp_mono (wp_region_any (Q := fun x a' w' => x = .normal ∧ ∃ st' loc', Q .normal st' ∧ SRep e N st' loc' a' w') hm ?_) (by rintro ex a' w' ⟨rfl, st', loc', h1, h2⟩; exact ⟨st', loc', h1, h2⟩)
 change wpAny P .any ops _ ops.size _ a w.drew
 -- the values of the straight operations
 have hV : ∃ V : Nat → AV, ∀ j, j < m → ∃ o, ops[j]? = some o ∧ dstOk N.N o.dst = true ∧ F (j + 1) = putS (F j) o.dst (V j) ∧ ((Runs ops ⟨F j, st.objs⟩ o ∧ QOp P o (evs (F j)) st.objs (V j)) ∨ (Skips ops (F j) o ∧ V j = .c (.raw (.tuple #[])))) := by
  refine ⟨fun j => if h : j < m then Classical.choose (Classical.choose_spec (hF j (Nat.zero_le _) h)) else .c .any, fun j hj => ?_⟩
  simp only [hj, dif_pos]
  exact ⟨_, Classical.choose_spec (Classical.choose_spec (hF j (Nat.zero_le _) hj))⟩
 obtain ⟨V, hV⟩ := hV
 have hFs : ∀ i, i ≤ m → F i = slD (fun _ => true) st.slots (dstAt ops) V i := by
  intro i
  induction i with
  | zero => intro _; exact hF0
  | succ i ih =>
   intro hi
   obtain ⟨o, h1, h2, h3, _⟩ := hV i (by omega)
   rw [h3, ih (by omega)]
   simp [slD, dstAt, h1]
 have main : ∀ (fuel : Nat) (listed : Array Bool) (a : Act) (w : World), listed.size = ops.size → (∀ j, m ≤ j → j < ops.size → listed.getD j false = false) →
   (∀ i o, listed.getD i false = true → ops[i]? = some o → ∀ e ∈ o.after.toList, Region.binds .any e = true → listed.getD e.on false = true) →
   ((List.range ops.size).filter fun i => !listed.getD i false).length ≤ fuel →
   SRep e N ⟨slD (fun i => listed.getD i false) st.slots (dstAt ops) V m, st.objs⟩ loc a w →
   wpAny P .any ops (fun x a' w' => x = .normal ∧ ∃ st' loc', Q .normal st' ∧ SRep e N st' loc' a' w') fuel listed a w := by
  intro fuel
  induction fuel with
  | zero =>
   intro listed a w hs hlm hcl hlen hr
   by_cases hall : ∃ i, i < m ∧ listed.getD i false = false
   ·exfalso
    obtain ⟨i, hi, hf⟩ := hall
    have hmem : i ∈ (List.range ops.size).filter fun i => !listed.getD i false := List.mem_filter.2 ⟨List.mem_range.2 (by omega), by simp only [hf]; rfl⟩
    rw [List.eq_nil_of_length_eq_zero (Nat.le_zero.1 hlen)] at hmem
    cases hmem
   ·have hall' : ∀ i, i < m → listed.getD i false = true := fun i hi => by
     cases h : listed.getD i false with
     | true => rfl
     | false => exact absurd ⟨i, hi, h⟩ hall
    have hk0 : k = 0 := by
     rcases Nat.eq_zero_or_pos k with h | h
     ·exact h
     ·exfalso
      have hmem : m ∈ (List.range ops.size).filter fun i => !listed.getD i false := List.mem_filter.2 ⟨List.mem_range.2 (by omega), by simp only [hlm m (Nat.le_refl _) (by omega)]; rfl⟩
      rw [List.eq_nil_of_length_eq_zero (Nat.le_zero.1 hlen)] at hmem
      cases hmem
    refine tail_any hd k m 0 listed a w hk (Nat.le_refl _) (by omega) hs (fun j hj => ?_) ?_
    ·by_cases hjm : j < m
     ·rw [hall' j hjm]; simp [hjm]
     ·rw [hlm j (by omega) hj]; simp [hjm]
    ·have e1 : slD (fun i => listed.getD i false) st.slots (dstAt ops) V m = s' := by
      rw [← hFm, hFs m (Nat.le_refl _)]
      have : ∀ i, i ≤ m → slD (fun i => listed.getD i false) st.slots (dstAt ops) V i = slD (fun _ => true) st.slots (dstAt ops) V i := by
       intro i
       induction i with
       | zero => intro _; rfl
       | succ i ih => intro hi; simp only [slD]; rw [hall' i (by omega), ih (by omega)]
      exact this m (Nat.le_refl _)
     rw [e1] at hr
     exact ht e loc a w hr
  | succ fuel ihf =>
   intro listed a w hs hlm hcl hlen hr
   by_cases hall : ∃ i, i < m ∧ listed.getD i false = false
   ·obtain ⟨i0, hi0, hf0, hb0⟩ := least_false hall
    have hi0n : i0 < ops.size := by omega
    have hgd : ∀ i, i < ops.size → listed.getD i true = listed.getD i false := fun i hi => by simp [Array.getD, hs, hi]
    have hin : i0 ∈ Region.ready .any ops listed := ready_mem.2 ⟨hi0n, by rw [hgd i0 hi0n, hf0], ops[i0], Array.getElem?_eq_getElem hi0n, fun e he hbe => hb0 e.on (edge_lt hd (Array.getElem?_eq_getElem hi0n) he hbe)⟩
    refine ⟨fun h0 => (by rw [h0] at hin; cases hin), fun i hi => ?_⟩
    obtain ⟨hin2, hfi, o, ho, hp⟩ := ready_mem.1 hi
    rw [hgd i hin2] at hfi
    have hanc := anc_done hd (fun q => listed.getD q false) hcl i o ho hp
    have him : i < m := by
     rcases Nat.lt_or_ge i m with h | h
     ·exact h
     ·exfalso
      have hlt : i0 < i := by omega
      rcases drawB_pair hd hin2 hlt with h4 | ⟨h4, _⟩
      ·have h6 : listed.getD i0 false = true := hanc i0 h4
       rw [hf0] at h6; cases h6
      ·omega
    obtain ⟨o', ho', hdst, hFi, hcase⟩ := hV i him
    rw [ho] at ho'
    cases ho'
    have hdi : dstAt ops i = o.dst := by simp [dstAt, ho]
    -- what comes behind i, and clashes with it, has not been done
    have hafter : ∀ j, i < j → j < m → clashB ops i j = true → listed.getD j false = false := by
     intro j hij hjm hc
     cases hq : listed.getD j false with
     | false => rfl
     | true =>
      exfalso
      have hjn : j < ops.size := by omega
      rcases drawB_pair hd hjn hij with h4 | ⟨_, h4⟩
      ·have := anc_done hd (fun q => listed.getD q false) hcl j ops[j] (Array.getElem?_eq_getElem hjn) (fun e he hb => hcl j _ hq (Array.getElem?_eq_getElem hjn) e he hb) i h4
       have h6 : listed.getD i false = true := this
       rw [hfi] at h6; cases h6
      ·rw [hc] at h4; cases h4
    have hbefore : ∀ j, j < i → clashB ops j i = true → listed.getD j false = true := by
     intro j hji hc
     rcases drawB_pair hd hin2 hji with h4 | ⟨_, h4⟩
     ·exact hanc j h4
     ·rw [hc] at h4; cases h4
    have hclash1 : ∀ j t, j < ops.size → dstAt ops j = some t → t ∈ readsOf ops o → clashB ops j i = true ∧ clashB ops i j = true := by
     intro j t hj hdj ht
     have hoj : ops[j]? = some ops[j] := Array.getElem?_eq_getElem hj
     have hdj' : ops[j].dst = some t := by simpa [dstAt, hoj] using hdj
     have hany : ((readsOf ops o).any fun t => touch ops[j].dst (some t)) = true := List.any_eq_true.2 ⟨t, ht, by simp [touch, hdj']⟩
     simp [clashB, hoj, ho, hany]
    have hclash2 : ∀ j t, j < ops.size → dstAt ops j = some t → o.dst = some t → clashB ops i j = true := by
     intro j t hj hdj ht
     have hoj : ops[j]? = some ops[j] := Array.getElem?_eq_getElem hj
     have hdj' : ops[j].dst = some t := by simpa [dstAt, hoj] using hdj
     simp [clashB, hoj, ho, touch, hdj', ht]
    -- the slots that i reads hold what they hold in the text's order
    have hread : ∀ t, t ∈ readsOf ops o → look (slD (fun i => listed.getD i false) st.slots (dstAt ops) V m) t = look (F i) t := by
     intro t ht
     have h1 : ∀ q, q ≤ i → look (slD (fun i => listed.getD i false) st.slots (dstAt ops) V q) t = look (F q) t := by
      intro q
      induction q with
      | zero => intro _; rw [hF0]; rfl
      | succ q ihq =>
       intro hq
       rw [look_slD, hFs (q + 1) (by omega), look_slD, ← hFs q (by omega), ihq (by omega)]
       by_cases hdq : dstAt ops q = some t
       ·have := hbefore q (by omega) (hclash1 q t (by omega) hdq ht).1
        simp [this, hdq]
       ·simp [hdq]
     have h2 : ∀ q, i ≤ q → q ≤ m → look (slD (fun i => listed.getD i false) st.slots (dstAt ops) V q) t = look (F i) t := by
      intro q hiq
      induction q with
      | zero =>
       intro _
       have : i = 0 := by omega
       subst this
       exact h1 0 (Nat.le_refl _)
      | succ q ihq =>
       intro hq
       by_cases hqi : i = q + 1
       ·rw [← hqi]; exact h1 i (Nat.le_refl _)
       ·rw [look_slD]
        by_cases hdq : dstAt ops q = some t
        ·have : listed.getD q false = false := by
          by_cases hqe : q = i
          ·rw [hqe]; exact hfi
          ·exact hafter q (by omega) (by omega) (hclash1 q t (by omega) hdq ht).2
         simp only [this, Bool.false_eq_true, false_and, if_false]
         exact ihq (by omega) (by omega)
        ·simp only [hdq, and_false, if_false]
         exact ihq (by omega) (by omega)
     exact h2 m (by omega) (Nat.le_refl _)
    have hev : ∀ x ∈ o.op.operands, RepA (ctx e st.objs loc w) (evs (F i) x) (a.eval x) := by
     intro x hx
     cases x with
     | tmp t =>
      have ht : t ∈ readsOf ops o := by
       unfold readsOf
       refine List.mem_append.2 (.inl (List.mem_filterMap.2 ⟨.tmp t, by simpa using hx, rfl⟩))
      have := hr.slot t
      rw [hread t ht] at this
      exact this
     | const v => exact rep_avOf _ v
     | global g => simp [evs, RepA, RepC]
     | func f => simp [evs, RepA, RepC, Act.eval]
    have hguard : ∀ g t b, o.guard = some (g, b) → (ops[g]?).bind (·.dst) = some t → look (slD (fun i => listed.getD i false) st.slots (dstAt ops) V m) t = look (F i) t := by
     intro g t b hg ht
     refine hread t ?_
     unfold readsOf
     rw [hg]
     exact List.mem_append.2 (.inr (by simp [ht]))
    -- behind i
    have hnext : ∀ u w', Below w.heap.size w w' → RepA (ctx e st.objs loc w') (V i) u →
      wpAny P .any ops (fun x a' w' => x = .normal ∧ ∃ st' loc', Q .normal st' ∧ SRep e N st' loc' a' w') fuel (listed.setIfInBounds i true) (a.put o.dst u) w' := by
     intro u w' hb hu
     have hget : ∀ j, (listed.setIfInBounds i true).getD j false = if j = i then true else listed.getD j false := by
      intro j
      by_cases hj : j = i
      ·subst hj; simp [Array.getD, hs, hin2]
      ·rw [if_neg hj]
       simp [Array.getD_eq_getD_getElem?, Array.getElem?_setIfInBounds_ne (Ne.symm hj)]
     refine ihf _ _ _ (by simp [hs]) (fun j h1 h2 => ?_) (fun j oj h1 h2 e he hbd => ?_) ?_ ?_
     ·rw [hget, if_neg (by omega)]; exact hlm j h1 h2
     ·rw [hget] at h1 ⊢
      by_cases hj : j = i
      ·subst hj
       rw [ho] at h2; cases h2
       split
       ·rfl
       ·exact hp e he hbd
      ·rw [if_neg hj] at h1
       split
       ·rfl
       ·exact hcl j oj h1 h2 e he hbd
     ·have hlt : ((List.range ops.size).filter fun j => !(listed.setIfInBounds i true).getD j false).length < ((List.range ops.size).filter fun j => !listed.getD j false).length := by
       have e1 : ((List.range ops.size).filter fun j => !(listed.setIfInBounds i true).getD j false) = ((List.range ops.size).filter fun j => !listed.getD j false).filter fun j => !decide (j = i) := by
        rw [List.filter_filter]
        apply List.filter_congr
        intro j _
        rw [hget]
        by_cases hj : j = i <;> simp [hj]
       rw [e1]
       have hmem : i ∈ (List.range ops.size).filter fun j => !listed.getD j false := List.mem_filter.2 ⟨List.mem_range.2 hin2, by simp only [hfi]; rfl⟩
       rcases Nat.lt_or_ge (((List.range ops.size).filter fun j => !listed.getD j false).filter fun j => !decide (j = i)).length ((List.range ops.size).filter fun j => !listed.getD j false).length with h | h
       ·exact h
       ·exfalso
        have h2 := List.length_filter_le (fun j => !decide (j = i)) ((List.range ops.size).filter fun j => !listed.getD j false)
        have h3 := List.filter_eq_self.1 ((List.filter_sublist (p := fun j => !decide (j = i)) (l := (List.range ops.size).filter fun j => !listed.getD j false)).eq_of_length (by omega)) i hmem
        simp at h3
      omega
     ·have hr' := hr.below hb
      have hfun : (fun j => (listed.setIfInBounds i true).getD j false) = fun j => if j = i then true else listed.getD j false := funext hget
      rw [hfun]
      refine ⟨hr'.heap, by rw [← hr'.size]; cases o.dst <;> simp [Act.put], hr'.base, hr'.n0le, by cases hq : o.dst <;> simp [Act.put, hr'.defers], fun t => ?_⟩
      have hother : ∀ q, dstAt ops i ≠ some t → look (slD (fun j => if j = i then true else listed.getD j false) st.slots (dstAt ops) V q) t = look (slD (fun j => listed.getD j false) st.slots (dstAt ops) V q) t := by
       intro q hne
       induction q with
       | zero => rfl
       | succ q ihq =>
        rw [look_slD, look_slD, ihq]
        by_cases hqi : q = i
        ·subst hqi; simp [hne]
        ·simp [hqi]
      by_cases hdt : o.dst = some t
      ·have hsame : ∀ q, i < q → q ≤ m → look (slD (fun j => if j = i then true else listed.getD j false) st.slots (dstAt ops) V q) t = V i := by
        intro q hiq
        induction q with
        | zero => omega
        | succ q ihq =>
         intro hq
         rw [look_slD]
         by_cases hqi : q = i
         ·subst hqi; simp [hdi, hdt]
         ·by_cases hdq : dstAt ops q = some t
          ·have := hafter q (by omega) (by omega) (hclash2 q t (by omega) hdq hdt)
           simp only [hqi, if_false, this, Bool.false_eq_true, false_and]
           exact ihq (by omega) (by omega)
          ·simp only [hdq, and_false, if_false]
           exact ihq (by omega) (by omega)
       rw [hsame m him (Nat.le_refl _)]
       have hlt : t < a.tmps.size := by rw [hr.size]; exact dstOk_lt hdst t hdt
       rw [hdt]
       have : ((a.put (some t) u).tmps).getD t undef = u := by simp [Act.put, Array.getD, hlt]
       rw [this]; exact hu
      ·rw [hother m (by rw [hdi]; exact hdt)]
       have : ((a.put o.dst u).tmps).getD t undef = a.tmps.getD t undef := by
        cases hq : o.dst with
        | none => rfl
        | some d =>
         have hne : d ≠ t := fun h => hdt (by rw [hq, h])
         simp [Act.put, Array.getD_eq_getD_getElem?, Array.getElem?_setIfInBounds_ne hne]
       rw [this]
       exact hr'.slot t
    unfold wpOp
    simp only [ho]
    rcases hcase with ⟨hruns, hq⟩ | ⟨⟨g, t, b, hg, ht2, hv⟩, hVi⟩
    ·have hw : Region.wanted o (yielded ops a.tmps) = true := by
      cases hruns with
      | plain hg => exact wanted_none hg
      | guard g t b hg ht2 hv =>
       exact Runs.wanted (st := ⟨slD (fun i => listed.getD i false) st.slots (dstAt ops) V m, st.objs⟩) (.guard g t b hg ht2 (by rw [hguard g t b hg ht2]; exact hv)) hr
     rw [if_pos hw]
     exact .inl (hq e loc w a hr.heap hev _ _ hnext)
    ·have hw : Region.wanted o (yielded ops a.tmps) = false := by
      refine notB_wanted (v := look (slD (fun i => listed.getD i false) st.slots (dstAt ops) V m) t) ?_ hg ht2 (hr.slot t)
      rw [hguard g t b hg ht2]; exact hv
     rw [hw]
     simp only [Bool.false_eq_true, if_false]
     exact hnext undef w (Below.refl _ _) (by rw [hVi]; rfl)
   ·have hall' : ∀ i, i < m → listed.getD i false = true := fun i hi => by
     cases h : listed.getD i false with
     | true => rfl
     | false => exact absurd ⟨i, hi, h⟩ hall
    have hfk : k ≤ fuel + 1 := by
     have hsub : (List.range' m k).length ≤ ((List.range ops.size).filter fun i => !listed.getD i false).length := by
      apply List.Nodup.length_le_of_subset (List.nodup_range' (step := 1))
      intro j hj
      have hj2 : m ≤ j ∧ j < m + k := by simpa using hj
      simp only [List.mem_filter, List.mem_range]
      exact ⟨by omega, by rw [hlm j hj2.1 (by omega)]; rfl⟩
     rw [List.length_range'] at hsub
     omega
    refine tail_any hd k m (fuel + 1) listed a w hk (Nat.le_refl _) hfk hs (fun j hj => ?_) ?_
    ·by_cases hjm : j < m
     ·rw [hall' j hjm]; simp [hjm]
     ·rw [hlm j (by omega) hj]; simp [hjm]
    ·have e1 : slD (fun i => listed.getD i false) st.slots (dstAt ops) V m = s' := by
      rw [← hFm, hFs m (Nat.le_refl _)]
      have : ∀ i, i ≤ m → slD (fun i => listed.getD i false) st.slots (dstAt ops) V i = slD (fun _ => true) st.slots (dstAt ops) V i := by
       intro i
       induction i with
       | zero => intro _; rfl
       | succ i ih => intro hi; simp only [slD]; rw [hall' i (by omega), ih (by omega)]
      exact this m (Nat.le_refl _)
     rw [e1] at hr
     exact ht e loc a w hr
 refine main ops.size _ a w.drew (by simp) (fun j _ hj => by simp [Array.getD, hj]) (fun i o h _ => ?_) ?_ ?_
 ·exfalso
  by_cases hi : i < ops.size
  ·simp [Array.getD, hi] at h
  ·simp [Array.getD, hi] at h
 ·refine Nat.le_trans (List.length_filter_le _ _) (by simp)
 ·have e1 : ∀ q, slD (fun i => (Array.replicate ops.size false).getD i false) st.slots (dstAt ops) V q = st.slots := by
   intro q
   induction q with
   | zero => rfl
   | succ q ih =>
    have : (Array.replicate ops.size false).getD q false = false := by
     by_cases hq : q < ops.size <;> simp [Array.getD, hq]
    simp only [slD, this, ih]
  rw [e1]
  exact hr0
end
end Go.Proofs.Ytoncfkdgddfnlaa.E
