/- Regions that draw their order: straight operations and steps with effects, in any order that the edges leave. -/
import Derived.Test.YtoncfkdgddfnlaaEngS
namespace Go.Proofs.Ytoncfkdgddfnlaa.E
open Go Go.RowKit
set_option linter.unusedVariables false
def ovG (W : List Nat) (f : Nat → Ob) : Nat → List Ob → List Ob
 | _, [] => []
 | k, o :: os => (match memB W k with | true => f k | false => o) :: ovG W f (k + 1) os
def ov (objs : List Ob) (W : List Nat) (f : Nat → Ob) (x : List Ob) : List Ob := ovG W f 0 objs ++ x
theorem ovG_of {W : List Nat} {f : Nat → Ob} : ∀ (objs0 objs : List Ob) (k : Nat), objs0.length ≤ objs.length → (∀ j, j < objs0.length → memB W (k + j) = false → objs[j]? = objs0[j]?) →
  (∀ j, j < objs0.length → objs[j]? = some (f (k + j)) ∨ memB W (k + j) = false) → objs = ovG W f k objs0 ++ objs.drop objs0.length
 | [], objs, k, _, _, _ => by simp [ovG]
 | o :: os, [], k, hl, _, _ => by simp at hl
 | o :: os, x :: xs, k, hl, h, hf => by
  have h0 : x = match memB W k with | true => f k | false => o := by
   cases hm : memB W k with
   | true =>
    rcases hf 0 (by simp) with h1 | h1
    ·simpa using h1
    ·rw [Nat.add_zero, hm] at h1; cases h1
   | false => simpa using h 0 (by simp) hm
  have ih := ovG_of (W := W) (f := f) os xs (k + 1) (by simpa using hl) (fun j hj hm => by simpa using h (j + 1) (by simpa using hj) (by rw [← hm]; congr 1; omega))
   (fun j hj => by
    have := hf (j + 1) (by simpa using hj)
    rw [show k + 1 + j = k + (j + 1) by omega]
    simpa using this)
  simp only [ovG, List.length_cons, List.drop_succ_cons, List.cons_append]
  rw [← h0, ← ih]
theorem ov_of {objs0 objs : List Ob} {W : List Nat} (hl : objs0.length ≤ objs.length) (h : ∀ j, j < objs0.length → memB W j = false → objs[j]? = objs0[j]?) :
  ∃ f x, objs = ov objs0 W f x := by
 refine ⟨fun k => objs.getD k .dead, objs.drop objs0.length, ?_⟩
 refine ovG_of objs0 objs 0 hl (fun j hj hm => h j hj (by simpa using hm)) (fun j hj => .inl ?_)
 have : j < objs.length := by omega
 simp [List.getD, this]
inductive HChain (P : Program) (N : Nat) (ops : Array Oper) (T : List Nat) (objs : List Ob) (W : Nat → List Nat) : Nat → Nat → List (Nat × AV) → List (Nat × AV) → Prop
 | nil (i : Nat) (s : List (Nat × AV)) : HChain P N ops T objs W i i s s
 | tail {i m : Nat} {s s' : List (Nat × AV)} (hT : memB T i = true) (k : HChain P N ops T objs W (i + 1) m s s') : HChain P N ops T objs W i m s s'
 | run {i m : Nat} {s s' : List (Nat × AV)} {o : Oper} {v : AV} (hT : memB T i = false) (ho : ops[i]? = some o) (hg : Runs ops ⟨s, objs⟩ o) (hd : dstOk N o.dst = true) (q : ∀ f x, QOp P o (evs s) (ov objs (W i) f x) v) (k : HChain P N ops T objs W (i + 1) m (putS s o.dst v) s') : HChain P N ops T objs W i m s s'
 | skip {i m : Nat} {s s' : List (Nat × AV)} {o : Oper} (hT : memB T i = false) (ho : ops[i]? = some o) (hg : Skips ops s o) (hd : dstOk N o.dst = true) (k : HChain P N ops T objs W (i + 1) m (putS s o.dst (.c (.raw (.tuple #[])))) s') : HChain P N ops T objs W i m s s'
def HStep (P : Program) (N : Nat) (ops : Array Oper) (T : List Nat) (objs : List Ob) (W : Nat → List Nat) (F : Nat → List (Nat × AV)) (j : Nat) : Prop :=
 (memB T j = true ∧ F (j + 1) = F j) ∨ (memB T j = false ∧ ∃ o v, ops[j]? = some o ∧ dstOk N o.dst = true ∧ F (j + 1) = putS (F j) o.dst v ∧
  ((Runs ops ⟨F j, objs⟩ o ∧ ∀ f x, QOp P o (evs (F j)) (ov objs (W j) f x) v) ∨ (Skips ops (F j) o ∧ v = .c (.raw (.tuple #[])))))
theorem HStep.congr {P : Program} {N : Nat} {ops : Array Oper} {T : List Nat} {objs : List Ob} {W : Nat → List Nat} {F G : Nat → List (Nat × AV)} {j : Nat} (h : HStep P N ops T objs W F j) (h1 : G j = F j) (h2 : G (j + 1) = F (j + 1)) : HStep P N ops T objs W G j := by
 unfold HStep at h ⊢
 rw [h1, h2]
 exact h
theorem HChain.out {P : Program} {N : Nat} {ops : Array Oper} {T : List Nat} {objs : List Ob} {W : Nat → List Nat} {i m : Nat} {s s' : List (Nat × AV)} (h : HChain P N ops T objs W i m s s') : i ≤ m ∧ ∃ F : Nat → List (Nat × AV), F i = s ∧ F m = s' ∧
  ∀ j, i ≤ j → j < m → HStep P N ops T objs W F j := by
 have cons : ∀ {i m : Nat} {s s1 s' : List (Nat × AV)} (F : Nat → List (Nat × AV)), i + 1 ≤ m → F (i + 1) = s1 → F m = s' → (∀ j, i + 1 ≤ j → j < m → HStep P N ops T objs W F j) →
   (∀ G : Nat → List (Nat × AV), G i = s → G (i + 1) = s1 → HStep P N ops T objs W G i) → i ≤ m ∧ ∃ F : Nat → List (Nat × AV), F i = s ∧ F m = s' ∧ ∀ j, i ≤ j → j < m → HStep P N ops T objs W F j := by
  intro i m s s1 s' F him h1 h2 h3 h4
  refine ⟨by omega, fun j => if j ≤ i then s else F j, by simp, ?_, fun j hj1 hj2 => ?_⟩
  ·simp only [show ¬ m ≤ i by omega, if_false]; exact h2
  ·by_cases hj : j = i
   ·subst hj
    exact h4 _ (by simp) (by simp [show ¬ j + 1 ≤ j by omega, h1])
   ·refine (h3 j (by omega) hj2).congr ?_ ?_
    ·simp [show ¬ j ≤ i by omega]
    ·simp [show ¬ j + 1 ≤ i by omega]
 induction h with
 | nil i s => exact ⟨Nat.le_refl _, fun _ => s, rfl, rfl, fun j h1 h2 => by omega⟩
 | tail hT k ih =>
  obtain ⟨him, F, h1, h2, h3⟩ := ih
  exact cons F him h1 h2 h3 (fun G g1 g2 => .inl ⟨hT, by rw [g1, g2]⟩)
 | run hT ho hg hd q k ih =>
  obtain ⟨him, F, h1, h2, h3⟩ := ih
  exact cons F him h1 h2 h3 (fun G g1 g2 => .inr ⟨hT, _, _, ho, hd, by rw [g1, g2], .inl ⟨by rw [g1]; exact hg, by rw [g1]; exact q⟩⟩)
 | skip hT ho hg hd k ih =>
  obtain ⟨him, F, h1, h2, h3⟩ := ih
  exact cons F him h1 h2 h3 (fun G g1 g2 => .inr ⟨hT, _, _, ho, hd, by rw [g1, g2], .inr ⟨by rw [g1]; exact hg, rfl⟩⟩)
def AllP : List Nat → (Nat → Prop) → Prop
 | [], _ => True
 | i :: l, F => F i ∧ AllP l F
theorem AllP.nil {F : Nat → Prop} : AllP [] F := trivial
theorem AllP.cons {F : Nat → Prop} {i : Nat} {l : List Nat} (h : F i) (k : AllP l F) : AllP (i :: l) F := ⟨h, k⟩
theorem AllP.mem {F : Nat → Prop} : ∀ {l : List Nat} (_ : AllP l F) {i : Nat} (_ : i ∈ l), F i
 | _ :: _, h, _, .head _ => h.1
 | _ :: _, h, _, .tail _ hi => AllP.mem h.2 hi
def SameP (a b : List Ob) (W : List Nat) : Nat → Prop
 | 0 => True
 | n + 1 => SameP a b W n ∧ (memB W n = true ∨ b[n]? = a[n]?)
theorem SameP.zero {a b : List Ob} {W : List Nat} : SameP a b W 0 := trivial
theorem SameP.s {a b : List Ob} {W : List Nat} {n : Nat} (h : SameP a b W n) (k : b[n]? = a[n]?) : SameP a b W (n + 1) := ⟨h, .inr k⟩
theorem SameP.w {a b : List Ob} {W : List Nat} {n : Nat} (h : SameP a b W n) (k : memB W n = true) : SameP a b W (n + 1) := ⟨h, .inl k⟩
theorem SameP.out {a b : List Ob} {W : List Nat} : ∀ {n : Nat} (_ : SameP a b W n) {j : Nat} (_ : j < n), memB W j = true ∨ b[j]? = a[j]?
 | n + 1, h, j, hj => by
  rcases Nat.lt_succ_iff_lt_or_eq.1 hj with h1 | h1
  ·exact SameP.out h.1 h1
  ·subst h1; exact h.2
def tailReady (anc : List (List Nat)) (T done : List Nat) : List Nat :=
 T.filter fun i => !memB done i && T.all fun j => !memB (ancAt anc i) j || memB done j
def rs (ops : Array Oper) (o : Oper) (s : List (Nat × AV)) : List (Nat × AV) := (readsOf ops o).map fun t => (t, look s t)
section
variable (P : Program) (N : Fr) (ops : Array Oper) (anc : List (List Nat)) (T : List Nat) (n0 : Nat) (W : Nat → List Nat) (sH : List (Nat × AV)) (stF : St)
def freeB (Wi : List Nat) (i : Nat) : Bool := (List.range ops.size).all fun h => memB T h || memB (ancAt anc i) h || Wi.all fun k => memB (W h) k
def TTree : Nat → List Nat → List (Nat × AV) → List Ob → Prop
 | 0, done, p, objs => tailReady anc T done = [] ∧ Sub N ⟨p ++ sH, objs⟩ stF
 | k + 1, done, p, objs => (tailReady anc T done = [] ∧ Sub N ⟨p ++ sH, objs⟩ stF) ∨ (tailReady anc T done ≠ [] ∧ AllP (tailReady anc T done) fun i => ∃ o v objs' Wi, ops[i]? = some o ∧ o.guard = none ∧ dstOk N.N o.dst = true ∧
   Nat.ble objs.length objs'.length = true ∧ SameP objs objs' Wi n0 ∧ freeB ops anc T W Wi i = true ∧
   (∀ s2, EOp P N o ⟨rs ops o (p ++ sH) ++ s2, objs⟩ ⟨putS (rs ops o (p ++ sH) ++ s2) o.dst v, objs'⟩) ∧ TTree k (i :: done) (putS p o.dst v) objs')
end
section
variable {P : Program} {N : Fr} {ops : Array Oper} {anc : List (List Nat)} {T : List Nat} {n0 : Nat} {W : Nat → List Nat} {sH : List (Nat × AV)} {stF : St}
theorem TTree.leaf {k : Nat} {done : List Nat} {p : List (Nat × AV)} {objs : List Ob} (hl : tailReady anc T done = []) (hs : Sub N ⟨p ++ sH, objs⟩ stF) : TTree P N ops anc T n0 W sH stF k done p objs := by
 cases k with
 | zero => exact ⟨hl, hs⟩
 | succ k => exact .inl ⟨hl, hs⟩
def TStep (P : Program) (N : Fr) (ops : Array Oper) (anc : List (List Nat)) (T : List Nat) (n0 : Nat) (W : Nat → List Nat) (sH : List (Nat × AV)) (stF : St) (k : Nat) (done : List Nat) (p : List (Nat × AV)) (objs : List Ob) (i : Nat) : Prop :=
 ∃ o v objs' Wi, ops[i]? = some o ∧ o.guard = none ∧ dstOk N.N o.dst = true ∧
   Nat.ble objs.length objs'.length = true ∧ SameP objs objs' Wi n0 ∧ freeB ops anc T W Wi i = true ∧
   (∀ s2, EOp P N o ⟨rs ops o (p ++ sH) ++ s2, objs⟩ ⟨putS (rs ops o (p ++ sH) ++ s2) o.dst v, objs'⟩) ∧ TTree P N ops anc T n0 W sH stF k (i :: done) (putS p o.dst v) objs'
theorem TTree.node {k : Nat} {done : List Nat} {p : List (Nat × AV)} {objs : List Ob} (i : Nat) (l : List Nat) (hl : tailReady anc T done = i :: l) (h : AllP (i :: l) (TStep P N ops anc T n0 W sH stF k done p objs)) : TTree P N ops anc T n0 W sH stF (k + 1) done p objs :=
 .inr ⟨by rw [hl]; simp, by rw [hl]; exact h⟩
theorem TStep.mk {k : Nat} {done : List Nat} {p : List (Nat × AV)} {objs objs' : List Ob} {i : Nat} {o : Oper} {v : AV} (Wi : List Nat) (ho : ops[i]? = some o) (hg : o.guard = none) (hd : dstOk N.N o.dst = true)
  (hf : freeB ops anc T W Wi i = true)
  (q : ∀ s2, EOp P N o ⟨rs ops o (p ++ sH) ++ s2, objs⟩ ⟨putS (rs ops o (p ++ sH) ++ s2) o.dst v, objs'⟩) (hl : Nat.ble objs.length objs'.length = true) (hs : SameP objs objs' Wi n0) (kk : TTree P N ops anc T n0 W sH stF k (i :: done) (putS p o.dst v) objs') :
  TStep P N ops anc T n0 W sH stF k done p objs i := ⟨o, v, objs', Wi, ho, hg, hd, hl, hs, hf, q, kk⟩
theorem TStep.d {k : Nat} {done : List Nat} {p : List (Nat × AV)} {objs objs' : List Ob} {i : Nat} {o : Oper} {v : AV} (Wi : List Nat) (d : Nat) (ho : ops[i]? = some o) (hdd : o.dst = some d) (hg : o.guard = none) (hd : dstOk N.N (some d) = true)
  (hf : freeB ops anc T W Wi i = true)
  (q : ∀ s2, EOp P N o ⟨rs ops o (p ++ sH) ++ s2, objs⟩ ⟨(d, v) :: (rs ops o (p ++ sH) ++ s2), objs'⟩) (hk : Nat.ble objs.length objs'.length = true ∧ SameP objs objs' Wi n0 ∧ TTree P N ops anc T n0 W sH stF k (i :: done) ((d, v) :: p) objs') :
  TStep P N ops anc T n0 W sH stF k done p objs i := ⟨o, v, objs', Wi, ho, hg, by rw [hdd]; exact hd, hk.1, hk.2.1, hf, by rw [hdd]; exact q, by rw [hdd]; exact hk.2.2⟩
theorem TStep.n {k : Nat} {done : List Nat} {p : List (Nat × AV)} {objs objs' : List Ob} {i : Nat} {o : Oper} (Wi : List Nat) (ho : ops[i]? = some o) (hdd : o.dst = none) (hg : o.guard = none)
  (hf : freeB ops anc T W Wi i = true)
  (q : ∀ s2, EOp P N o ⟨rs ops o (p ++ sH) ++ s2, objs⟩ ⟨rs ops o (p ++ sH) ++ s2, objs'⟩) (hk : Nat.ble objs.length objs'.length = true ∧ SameP objs objs' Wi n0 ∧ TTree P N ops anc T n0 W sH stF k (i :: done) p objs') :
  TStep P N ops anc T n0 W sH stF k done p objs i := ⟨o, .c .any, objs', Wi, ho, hg, by rw [hdd]; rfl, hk.1, hk.2.1, hf, by rw [hdd]; exact q, by rw [hdd]; exact hk.2.2⟩
theorem EOp.eq {o : Oper} {st st1 st2 : St} (h : EOp P N o st st1) (e : st1 = st2) : EOp P N o st st2 := e ▸ h
theorem EOp.q {o : Oper} {st : St} {v : AV} (hd : dstOk N.N o.dst = true) (q : QOp P o (evs st.slots) st.objs v) : EOp P N o st ⟨putS st.slots o.dst v, st.objs⟩ := by
 intro e loc a w hr K Q hK
 refine q e loc w a hr.heap (fun x _ => hr.eval x) _ _ ?_
 intro u w' hb hv
 have := (hr.below hb).put o.dst (dstOk_lt hd) hv
 obtain ⟨s, ob⟩ := st
 rw [put_eq] at this
 exact hK _ _ loc this
theorem EOp.qd {o : Oper} {st : St} {v : AV} {d : Nat} (hdd : o.dst = some d) (hd : dstOk N.N (some d) = true) (q : QOp P o (evs st.slots) st.objs v) : EOp P N o st ⟨(d, v) :: st.slots, st.objs⟩ := by
 have := EOp.q (N := N) (by rw [hdd]; exact hd) q
 rw [hdd] at this
 exact this
def draw2B (ops : Array Oper) (anc : List (List Nat)) (T : List Nat) : Bool :=
 (T.all fun i => Nat.blt i ops.size) && ((List.range ops.size).all fun j => edgesB ops anc j && ((List.range j).all fun i =>
  match memB T j with
  | true => memB T i || memB (ancAt anc j) i || !(clashB ops i j)
  | false => (!memB T i && memB (ancAt anc j) i) || !(clashB ops i j)))
theorem draw2B_lt (h : draw2B ops anc T = true) {i : Nat} (hi : i ∈ T) : i < ops.size := by
 simp only [draw2B, Bool.and_eq_true] at h
 simpa [Nat.blt_eq] using List.all_eq_true.1 h.1 i hi
theorem draw2B_edges (h : draw2B ops anc T = true) {j : Nat} (hj : j < ops.size) : edgesB ops anc j = true := by
 simp only [draw2B, Bool.and_eq_true] at h
 have := List.all_eq_true.1 h.2 j (List.mem_range.2 hj)
 simp only [Bool.and_eq_true] at this
 exact this.1
theorem draw2B_pair (h : draw2B ops anc T = true) {i j : Nat} (hj : j < ops.size) (hi : i < j) (hn : memB T i = false ∨ memB T j = false) : (memB T i = false ∧ i ∈ ancAt anc j) ∨ clashB ops i j = false := by
 simp only [draw2B, Bool.and_eq_true] at h
 have := List.all_eq_true.1 h.2 j (List.mem_range.2 hj)
 simp only [Bool.and_eq_true] at this
 have := List.all_eq_true.1 this.2 i (List.mem_range.2 hi)
 cases hTj : memB T j with
 | true =>
  rw [hTj] at this hn
  have hi' : memB T i = false := by rcases hn with h | h; exact h; cases h
  simp only [hi', Bool.false_or, Bool.or_eq_true, Bool.not_eq_true'] at this
  rcases this with h1 | h1
  ·exact .inl ⟨hi', memB_out h1⟩
  ·exact .inr h1
 | false =>
  rw [hTj] at this
  simp only [Bool.or_eq_true, Bool.and_eq_true, Bool.not_eq_true'] at this
  rcases this with ⟨h1, h2⟩ | h1
  ·exact .inl ⟨h1, memB_out h2⟩
  ·exact .inr h1
theorem edge_lt2 (h : draw2B ops anc T = true) {j : Nat} {o : Oper} (ho : ops[j]? = some o) {e : Edge} (he : e ∈ o.after.toList) (hb : Region.binds .any e = true) : e.on < j := by
 have hj : j < ops.size := (Array.getElem?_eq_some_iff.1 ho).1
 have h1 := draw2B_edges h hj
 simp only [edgesB, ho, Bool.and_eq_true] at h1
 have := List.all_eq_true.1 h1.1 e he
 simpa [Nat.blt_eq, hb] using this
theorem anc_done2 (h : draw2B ops anc T = true) (D : Nat → Bool) (hD : ∀ i o, D i = true → ops[i]? = some o → ∀ e ∈ o.after.toList, Region.binds .any e = true → D e.on = true) :
  ∀ (j : Nat) (o : Oper), ops[j]? = some o → (∀ e ∈ o.after.toList, Region.binds .any e = true → D e.on = true) → ∀ i, i ∈ ancAt anc j → D i = true := by
 intro j
 induction j using Nat.strongRecOn with
 | _ j ih =>
  intro o ho hp i hi
  have hj : j < ops.size := (Array.getElem?_eq_some_iff.1 ho).1
  have h1 := draw2B_edges h hj
  simp only [edgesB, ho, Bool.and_eq_true] at h1
  have h2 := List.all_eq_true.1 h1.2 i hi
  obtain ⟨e, he, hb⟩ := List.any_eq_true.1 h2
  simp only [Bool.and_eq_true, Bool.or_eq_true] at hb
  have hDe := hp e he hb.1
  rcases hb.2 with h3 | h3
  ·rw [← Nat.eq_of_beq_eq_true h3]; exact hDe
  ·have hlt := edge_lt2 h ho he hb.1
   have hlt2 : e.on < ops.size := by omega
   exact ih e.on hlt ops[e.on] (Array.getElem?_eq_getElem hlt2) (fun e' he' hb' => hD e.on _ hDe (Array.getElem?_eq_getElem hlt2) e' he' hb') i (memB_out h3)
end
theorem look_append (p q : List (Nat × AV)) (t : Nat) : look (p ++ q) t = if (p.any fun x => Nat.beq x.1 t) then look p t else look q t := by
 induction p with
 | nil => rfl
 | cons x p ih =>
  obtain ⟨d, v⟩ := x
  rw [List.cons_append, look_cons, look_cons, ih]
  by_cases h : d = t
  ·subst h; simp
  ·have : Nat.beq d t = false := by
    cases hb : Nat.beq d t with
    | false => rfl
    | true => exact absurd (Nat.eq_of_beq_eq_true hb) h
   simp only [List.any_cons, this, Bool.false_or, if_neg h]
theorem look_rs {ops : Array Oper} {o : Oper} {s s2 : List (Nat × AV)} (h : ∀ t, t ∈ readsOf ops o → look s t = look s2 t) (t : Nat) : look (rs ops o s ++ s2) t = look s2 t := by
 unfold rs
 generalize readsOf ops o = l at h
 induction l with
 | nil => rfl
 | cons x l ih =>
  rw [List.map_cons, List.cons_append, look_cons]
  by_cases hx : x = t
  ·subst hx; simp [h x (List.mem_cons_self ..)]
  ·simp only [hx, if_false]
   exact ih (fun t ht => h t (List.mem_cons_of_mem _ ht))
theorem SRep.look {e : Env} {N : Fr} {s s' : List (Nat × AV)} {objs : List Ob} {loc : Loc} {a : Act} {w : World} (h : SRep e N ⟨s, objs⟩ loc a w) (hl : ∀ t, E.look s' t = E.look s t) : SRep e N ⟨s', objs⟩ loc a w :=
 ⟨h.heap, h.size, h.base, h.n0le, h.defers, fun t => by rw [show E.look (St.mk s' objs).slots t = E.look (St.mk s objs).slots t from hl t]; exact h.slot t⟩
theorem fin {P : Program} {N : Fr} {ops : Array Oper} {anc : List (List Nat)} {T : List Nat} {n0 : Nat} {W : Nat → List Nat} {sH : List (Nat × AV)} {stF : St} {st : St} {dH : Nat → Option Tmp} {V : Nat → AV} {F : Nat → List (Nat × AV)}
  {k : Nat} {done : List Nat} {p : List (Nat × AV)} {objs : List Ob} {e : Env} {loc : Loc} {a : Act} {w : World} {listed : Array Bool} (hd : draw2B ops anc T = true)
  (hFm : F ops.size = sH) (hFs : ∀ i, i ≤ ops.size → F i = slD (fun _ => true) st.slots dH V i) (hall : ∀ i, i < ops.size → listed.getD i false = true) (hdone : ∀ i, i ∈ T → listed.getD i false = memB done i)
  (htr : TTree P N ops anc T n0 W sH stF k done p objs) (hr : SRep e N ⟨p ++ slD (fun i => listed.getD i false) st.slots dH V ops.size, objs⟩ loc a w) : ∃ loc', SRep e N stF loc' a w := by
 have h0 : tailReady anc T done = [] := by
  unfold tailReady
  refine List.filter_eq_nil_iff.2 (fun i hi => ?_)
  have h1 := hall i (draw2B_lt hd hi)
  rw [hdone i hi] at h1
  simp [h1]
 have hs : Sub N ⟨p ++ sH, objs⟩ stF := by
  cases k with
  | zero => exact htr.2
  | succ k =>
   rcases htr with h | h
   ·exact h.2
   ·exact absurd h0 h.1
 have e1 : ∀ q, q ≤ ops.size → slD (fun i => listed.getD i false) st.slots dH V q = slD (fun _ => true) st.slots dH V q := by
  intro q
  induction q with
  | zero => intro _; rfl
  | succ q ih => intro hq; simp only [slD]; rw [hall q (by omega), ih (by omega)]
 rw [e1 ops.size (Nat.le_refl _), ← hFs ops.size (Nat.le_refl _), hFm] at hr
 exact hs e loc a w hr
section
variable {P : Program} {N : Fr} {ops : Array Oper} {sH : List (Nat × AV)}
theorem SCode.draw2 {id : Nat} {st : St} {Q : Exit → St → Prop} (hm : P.follows .mixedOrders = true) (anc : List (List Nat)) (T : List Nat) (W : Nat → List Nat) (hd : draw2B ops anc T = true)
  (hq : HChain P N.N ops T st.objs W 0 ops.size st.slots sH) (stF : St) (ht : TTree P N ops anc T st.objs.length W sH stF T.length [] [] st.objs) (hQ : Q .normal stF) : SCode P N (.region id ops true) st Q := by
 intro e loc a w hr
 obtain ⟨_, F, hF0, hFm, hF⟩ := hq.out
 have hr0 : SRep e N st loc a w.drew := hr.below ((Below.refl _ _).drew)
 refine wp_mono (wp_region_any (Q := fun x a' w' => x = .normal ∧ ∃ st' loc', Q .normal st' ∧ SRep e N st' loc' a' w') hm ?_) (by rintro ex a' w' ⟨rfl, st', loc', h1, h2⟩; exact ⟨st', loc', h1, h2⟩)
 change wpAny P .any ops _ ops.size _ a w.drew
 -- the values of the head's operations
 have hV : ∃ V : Nat → AV, ∀ j, j < ops.size → memB T j = false → ∃ o, ops[j]? = some o ∧ dstOk N.N o.dst = true ∧ F (j + 1) = putS (F j) o.dst (V j) ∧ ((Runs ops ⟨F j, st.objs⟩ o ∧ ∀ f x, QOp P o (evs (F j)) (ov st.objs (W j) f x) (V j)) ∨ (Skips ops (F j) o ∧ V j = .c (.raw (.tuple #[])))) := by
  have hx : ∀ j, ∃ v : AV, j < ops.size → memB T j = false → ∃ o, ops[j]? = some o ∧ dstOk N.N o.dst = true ∧ F (j + 1) = putS (F j) o.dst v ∧ ((Runs ops ⟨F j, st.objs⟩ o ∧ ∀ f x, QOp P o (evs (F j)) (ov st.objs (W j) f x) v) ∨ (Skips ops (F j) o ∧ v = .c (.raw (.tuple #[])))) := by
   intro j
   by_cases hj : j < ops.size
   ·rcases hF j (Nat.zero_le _) hj with ⟨h1, _⟩ | ⟨h1, o, v, h2⟩
    ·exact ⟨.c .any, fun _ h => by rw [h1] at h; cases h⟩
    ·exact ⟨v, fun _ _ => ⟨o, h2⟩⟩
   ·exact ⟨.c .any, fun h => absurd h hj⟩
  exact ⟨fun j => Classical.choose (hx j), fun j => Classical.choose_spec (hx j)⟩
 obtain ⟨V, hV⟩ := hV
 have hTF : ∀ j, j < ops.size → memB T j = true → F (j + 1) = F j := by
  intro j hj hT
  rcases hF j (Nat.zero_le _) hj with ⟨_, h⟩ | ⟨h, _⟩
  ·exact h
  ·rw [hT] at h; cases h
 -- the head's slots
 obtain ⟨dH, hdH⟩ : ∃ dH : Nat → Option Tmp, ∀ i, dH i = match memB T i with | true => none | false => dstAt ops i := ⟨_, fun _ => rfl⟩
 have hdT : ∀ i, memB T i = true → dH i = none := fun i h => by rw [hdH, h]
 have hdN : ∀ i, memB T i = false → dH i = dstAt ops i := fun i h => by rw [hdH, h]
 have hFs : ∀ i, i ≤ ops.size → F i = slD (fun _ => true) st.slots dH V i := by
  intro i
  induction i with
  | zero => intro _; exact hF0
  | succ i ih =>
   intro hi
   simp only [slD]
   cases hT : memB T i with
   | true => rw [hdT i hT, hTF i (by omega) hT, ih (by omega)]; rfl
   | false =>
    obtain ⟨o, ho, _, h, _⟩ := hV i (by omega) hT
    rw [h, ih (by omega), hdN i hT]
    congr 1
    simp [dstAt, ho]
 have main : ∀ (fuel : Nat) (listed : Array Bool) (a : Act) (w : World) (loc : Loc) (k : Nat) (done : List Nat) (p : List (Nat × AV)) (objs : List Ob), listed.size = ops.size →
   (∀ i o, listed.getD i false = true → ops[i]? = some o → ∀ e ∈ o.after.toList, Region.binds .any e = true → listed.getD e.on false = true) →
   ((List.range ops.size).filter fun i => !listed.getD i false).length ≤ fuel →
   (∀ i, i ∈ T → listed.getD i false = memB done i) →
   (∀ x, x ∈ p → ∃ j, memB T j = true ∧ j < ops.size ∧ listed.getD j false = true ∧ dstAt ops j = some x.1) →
   st.objs.length ≤ objs.length →
   (∀ h, h < ops.size → memB T h = false → listed.getD h false = false → ∀ j, j < st.objs.length → memB (W h) j = false → objs[j]? = st.objs[j]?) →
   TTree P N ops anc T st.objs.length W sH stF k done p objs →
   SRep e N ⟨p ++ slD (fun i => listed.getD i false) st.slots dH V ops.size, objs⟩ loc a w →
   wpAny P .any ops (fun x a' w' => x = .normal ∧ ∃ st' loc', Q .normal st' ∧ SRep e N st' loc' a' w') fuel listed a w := by
  intro fuel
  induction fuel with
  | zero =>
   intro listed a w loc k done p objs hs hcl hlen hdone hp hol hcls htr hr
   have hall : ∀ i, i < ops.size → listed.getD i false = true := by
    intro i hi
    cases hq : listed.getD i false with
    | true => rfl
    | false =>
     have hmem : i ∈ (List.range ops.size).filter fun i => !listed.getD i false := List.mem_filter.2 ⟨List.mem_range.2 hi, by simp only [hq]; rfl⟩
     rw [List.eq_nil_of_length_eq_zero (Nat.le_zero.1 hlen)] at hmem
     cases hmem
   have hready : Region.ready .any ops listed = [] := by
    apply List.eq_nil_iff_forall_not_mem.2
    intro j hj
    obtain ⟨h1, h2, _⟩ := ready_mem.1 hj
    have : listed.getD j true = listed.getD j false := by simp [Array.getD, hs, h1]
    rw [this, hall j h1] at h2
    cases h2
   have hfin := fin hd hFm hFs hall hdone htr hr
   obtain ⟨loc', hfin⟩ := hfin
   exact ⟨hready, rfl, stF, loc', hQ, hfin⟩
  | succ fuel ihf =>
   intro listed a w loc k done p objs hs hcl hlen hdone hp hol hcls htr hr
   have hgd : ∀ i, i < ops.size → listed.getD i true = listed.getD i false := fun i hi => by simp [Array.getD, hs, hi]
   have hancl : ∀ j o, ops[j]? = some o → listed.getD j false = true → ∀ i, i ∈ ancAt anc j → listed.getD i false = true := fun j o ho hj i hi =>
    anc_done2 hd (fun q => listed.getD q false) hcl j o ho (fun e he hb => hcl j o hj ho e he hb) i hi
   refine ⟨fun h0 => ?_, fun i hi => ?_⟩
   ·have hall : ∀ i, i < ops.size → listed.getD i false = true := by
     intro i hi
     cases hq : listed.getD i false with
     | true => rfl
     | false =>
      exfalso
      obtain ⟨i0, hi0, hf0, hb0⟩ := least_false (n := ops.size) (p := fun i => listed.getD i false) ⟨i, hi, hq⟩
      have hin : i0 ∈ Region.ready .any ops listed := ready_mem.2 ⟨hi0, by rw [hgd i0 hi0]; exact hf0, ops[i0], Array.getElem?_eq_getElem hi0, fun e he hbe => hb0 e.on (edge_lt2 hd (Array.getElem?_eq_getElem hi0) he hbe)⟩
      rw [h0] at hin; cases hin
    obtain ⟨loc', hfin⟩ := fin hd hFm hFs hall hdone htr hr
    exact ⟨rfl, stF, loc', hQ, hfin⟩
   ·obtain ⟨hin2, hfi, o, ho, hpe⟩ := ready_mem.1 hi
    rw [hgd i hin2] at hfi
    have hanc := anc_done2 hd (fun q => listed.getD q false) hcl i o ho hpe
    have hget : ∀ j, (listed.setIfInBounds i true).getD j false = if j = i then true else listed.getD j false := by
     intro j
     by_cases hj : j = i
     ·subst hj; simp [Array.getD, hs, hin2]
     ·rw [if_neg hj]
      simp [Array.getD_eq_getD_getElem?, Array.getElem?_setIfInBounds_ne (Ne.symm hj)]
    have hcl' : ∀ j oj, (listed.setIfInBounds i true).getD j false = true → ops[j]? = some oj → ∀ e ∈ oj.after.toList, Region.binds .any e = true → (listed.setIfInBounds i true).getD e.on false = true := by
     intro j oj h1 h2 e he hbd
     rw [hget] at h1 ⊢
     by_cases hj : j = i
     ·subst hj
      rw [ho] at h2; cases h2
      split
      ·rfl
      ·exact hpe e he hbd
     ·rw [if_neg hj] at h1
      split
      ·rfl
      ·exact hcl j oj h1 h2 e he hbd
    have hlen' : ((List.range ops.size).filter fun j => !(listed.setIfInBounds i true).getD j false).length ≤ fuel := by
     have e1 : ((List.range ops.size).filter fun j => !(listed.setIfInBounds i true).getD j false) = ((List.range ops.size).filter fun j => !listed.getD j false).filter fun j => !decide (j = i) := by
      rw [List.filter_filter]
      apply List.filter_congr
      intro j _
      rw [hget]
      by_cases hj : j = i <;> simp [hj]
     rw [e1]
     have hmem : i ∈ (List.range ops.size).filter fun j => !listed.getD j false := List.mem_filter.2 ⟨List.mem_range.2 hin2, by simp only [hfi]; rfl⟩
     rcases Nat.lt_or_ge (((List.range ops.size).filter fun j => !listed.getD j false).filter fun j => !decide (j = i)).length ((List.range ops.size).filter fun j => !listed.getD j false).length with h | h
     ·omega
     ·exfalso
      have h2 := List.length_filter_le (fun j => !decide (j = i)) ((List.range ops.size).filter fun j => !listed.getD j false)
      have h3 := List.filter_eq_self.1 ((List.filter_sublist (p := fun j => !decide (j = i)) (l := (List.range ops.size).filter fun j => !listed.getD j false)).eq_of_length (by omega)) i hmem
      simp at h3
    have hp' : ∀ x, x ∈ p → ∃ j, memB T j = true ∧ j < ops.size ∧ (listed.setIfInBounds i true).getD j false = true ∧ dstAt ops j = some x.1 := by
     intro x hx
     obtain ⟨j, h1, h2, h3, h4⟩ := hp x hx
     refine ⟨j, h1, h2, ?_, h4⟩
     rw [hget]; split
     ·rfl
     ·exact h3
    -- what clashes with i, on the two sides
    have hafter : ∀ j, j < ops.size → i < j → (memB T i = false ∨ memB T j = false) → clashB ops i j = true → listed.getD j false = false := by
     intro j hjn hij hT hc
     cases hq : listed.getD j false with
     | false => rfl
     | true =>
      exfalso
      rcases draw2B_pair hd hjn hij hT with ⟨_, h4⟩ | h4
      ·have := hancl j ops[j] (Array.getElem?_eq_getElem hjn) hq i h4
       rw [hfi] at this; cases this
      ·rw [hc] at h4; cases h4
    have hbefore : ∀ j, j < i → (memB T j = false ∨ memB T i = false) → clashB ops j i = true → listed.getD j false = true := by
     intro j hji hT hc
     rcases draw2B_pair hd hin2 hji hT with ⟨_, h4⟩ | h4
     ·exact hanc j h4
     ·rw [hc] at h4; cases h4
    have hclash1 : ∀ j t, j < ops.size → dstAt ops j = some t → t ∈ readsOf ops o → clashB ops j i = true ∧ clashB ops i j = true := by
     intro j t hj hdj ht
     have hoj : ops[j]? = some ops[j] := Array.getElem?_eq_getElem hj
     have hdj' : ops[j].dst = some t := by simpa [dstAt, hoj] using hdj
     have hany : ((readsOf ops o).any fun t => touch ops[j].dst (some t)) = true := List.any_eq_true.2 ⟨t, ht, by simp [touch, hdj']⟩
     simp [clashB, hoj, ho, hany]
    have hclash2 : ∀ j t, j < ops.size → dstAt ops j = some t → o.dst = some t → clashB ops i j = true ∧ clashB ops j i = true := by
     intro j t hj hdj ht
     have hoj : ops[j]? = some ops[j] := Array.getElem?_eq_getElem hj
     have hdj' : ops[j].dst = some t := by simpa [dstAt, hoj] using hdj
     simp [clashB, hoj, ho, touch, hdj', ht]
    have hdi : dstAt ops i = o.dst := by simp [dstAt, ho]
    cases hTi : memB T i with
    | false =>
     obtain ⟨o', ho', hdst, hFi, hcase⟩ := hV i hin2 hTi
     rw [ho] at ho'
     cases ho'
     -- a tail operation that has been done does not touch i's slots
     have hpno : ∀ t, (t ∈ readsOf ops o ∨ o.dst = some t) → (p.any fun x => Nat.beq x.1 t) = false := by
      intro t ht
      cases hq : p.any fun x => Nat.beq x.1 t with
      | false => rfl
      | true =>
       exfalso
       obtain ⟨x, hx, hbt⟩ := List.any_eq_true.1 hq
       have hxt := Nat.eq_of_beq_eq_true hbt
       obtain ⟨j, h1, h2, h3, h4⟩ := hp x hx
       rw [hxt] at h4
       have hc : clashB ops j i = true ∧ clashB ops i j = true := by
        rcases ht with ht | ht
        ·exact hclash1 j t h2 h4 ht
        ·exact (hclash2 j t h2 h4 ht).symm
       rcases Nat.lt_trichotomy j i with hji | hji | hji
       ·rcases draw2B_pair hd hin2 hji (.inr hTi) with ⟨h5, _⟩ | h5
        ·rw [h1] at h5; cases h5
        ·rw [hc.1] at h5; cases h5
       ·subst hji; rw [h1] at hTi; cases hTi
       ·have := hafter j h2 hji (.inl hTi) hc.2
        rw [h3] at this; cases this
     have hread : ∀ t, t ∈ readsOf ops o → look (p ++ slD (fun i => listed.getD i false) st.slots dH V ops.size) t = look (F i) t := by
      intro t ht
      rw [look_append, hpno t (.inl ht)]
      simp only [Bool.false_eq_true, if_false]
      have h1 : ∀ q, q ≤ i → look (slD (fun i => listed.getD i false) st.slots dH V q) t = look (F q) t := by
       intro q
       induction q with
       | zero => intro _; rw [hF0]; rfl
       | succ q ihq =>
        intro hq
        rw [look_slD, hFs (q + 1) (by omega), look_slD, ← hFs q (by omega), ihq (by omega)]
        by_cases hdq : dH q = some t
        ·have hTq : memB T q = false := by
          cases h : memB T q with
          | false => rfl
          | true => rw [hdT q h] at hdq; cases hdq
         have := hbefore q (by omega) (.inl hTq) (hclash1 q t (by omega) (by rw [← hdN q hTq]; exact hdq) ht).1
         simp [this, hdq]
        ·simp [hdq]
      have h2 : ∀ q, i ≤ q → q ≤ ops.size → look (slD (fun i => listed.getD i false) st.slots dH V q) t = look (F i) t := by
       intro q hiq
       induction q with
       | zero =>
        intro _
        have : i = 0 := by omega
        subst this
        exact h1 0 (Nat.le_refl _)
       | succ q ihq =>
        intro hq
        by_cases hqi : i = q + 1
        ·rw [← hqi]; exact h1 i (Nat.le_refl _)
        ·rw [look_slD]
         by_cases hdq : dH q = some t
         ·have hTq : memB T q = false := by
           cases h : memB T q with
           | false => rfl
           | true => rw [hdT q h] at hdq; cases hdq
          have : listed.getD q false = false := by
           by_cases hqe : q = i
           ·rw [hqe]; exact hfi
           ·exact hafter q (by omega) (by omega) (.inl hTi) (hclash1 q t (by omega) (by rw [← hdN q hTq]; exact hdq) ht).2
          simp only [this, Bool.false_eq_true, false_and, if_false]
          exact ihq (by omega) (by omega)
         ·simp only [hdq, and_false, if_false]
          exact ihq (by omega) (by omega)
      exact h2 ops.size (by omega) (Nat.le_refl _)
     have hev : ∀ x ∈ o.op.operands, RepA (ctx e objs loc w) (evs (F i) x) (a.eval x) := by
      intro x hx
      cases x with
      | tmp t =>
       have ht : t ∈ readsOf ops o := by
        unfold readsOf
        refine List.mem_append.2 (.inl (List.mem_filterMap.2 ⟨.tmp t, by simpa using hx, rfl⟩))
       have := hr.slot t
       rw [show (St.mk (p ++ slD (fun i => listed.getD i false) st.slots dH V ops.size) objs).slots = _ from rfl, hread t ht] at this
       exact this
      | const v => exact rep_avOf _ v
      | global g => simp [evs, RepA, RepC]
      | func f => simp [evs, RepA, RepC, Act.eval]
     have hguard : ∀ g t b, o.guard = some (g, b) → (ops[g]?).bind (·.dst) = some t → look (p ++ slD (fun i => listed.getD i false) st.slots dH V ops.size) t = look (F i) t := by
      intro g t b hg ht
      refine hread t ?_
      unfold readsOf
      rw [hg]
      exact List.mem_append.2 (.inr (by simp [ht]))
     -- behind i
     have hnext : ∀ u w', Below w.heap.size w w' → RepA (ctx e objs loc w') (V i) u →
       wpAny P .any ops (fun x a' w' => x = .normal ∧ ∃ st' loc', Q .normal st' ∧ SRep e N st' loc' a' w') fuel (listed.setIfInBounds i true) (a.put o.dst u) w' := by
      intro u w' hb hu
      refine ihf _ _ _ loc k done p objs (by simp [hs]) hcl' hlen' (fun j hj => ?_) hp' hol (fun h h1 h2 h3 => hcls h h1 h2 ?_) htr ?_
      ·rw [hget]
       have hji : ¬ j = i := fun h => by subst h; rw [memB_in hj] at hTi; cases hTi
       rw [if_neg hji]; exact hdone j hj
      ·rw [hget] at h3
       split at h3
       ·cases h3
       ·exact h3
      ·have hr' := hr.below hb
       have hfun : (fun j => (listed.setIfInBounds i true).getD j false) = fun j => if j = i then true else listed.getD j false := funext hget
       rw [hfun]
       refine ⟨hr'.heap, by rw [← hr'.size]; cases o.dst <;> simp [Act.put], hr'.base, hr'.n0le, by cases hq : o.dst <;> simp [Act.put, hr'.defers], fun t => ?_⟩
       have hother : ∀ q, dstAt ops i ≠ some t → look (slD (fun j => if j = i then true else listed.getD j false) st.slots dH V q) t = look (slD (fun j => listed.getD j false) st.slots dH V q) t := by
        intro q hne
        induction q with
        | zero => rfl
        | succ q ihq =>
         rw [look_slD, look_slD, ihq]
         by_cases hqi : q = i
         ·subst hqi; simp [hdN q hTi, hne]
         ·simp [hqi]
       by_cases hdt : o.dst = some t
       ·have hsame : ∀ q, i < q → q ≤ ops.size → look (slD (fun j => if j = i then true else listed.getD j false) st.slots dH V q) t = V i := by
         intro q hiq
         induction q with
         | zero => omega
         | succ q ihq =>
          intro hq
          rw [look_slD]
          by_cases hqi : q = i
          ·subst hqi; simp [hdN q hTi, hdi, hdt]
          ·by_cases hdq : dH q = some t
           ·have hTq : memB T q = false := by
             cases h : memB T q with
             | false => rfl
             | true => rw [hdT q h] at hdq; cases hdq
            have := hafter q (by omega) (by omega) (.inl hTi) (hclash2 q t (by omega) (by rw [← hdN q hTq]; exact hdq) hdt).1
            simp only [hqi, if_false, this, Bool.false_eq_true, false_and]
            exact ihq (by omega) (by omega)
           ·simp only [hdq, and_false, if_false]
            exact ihq (by omega) (by omega)
        change RepA _ (look (p ++ _) t) _
        rw [look_append, hpno t (.inr hdt)]
        simp only [Bool.false_eq_true, if_false]
        rw [hsame ops.size hin2 (Nat.le_refl _)]
        have hlt : t < a.tmps.size := by rw [hr.size]; exact dstOk_lt hdst t hdt
        rw [hdt]
        have : ((a.put (some t) u).tmps).getD t undef = u := by simp [Act.put, Array.getD, hlt]
        rw [this]; exact hu
       ·change RepA _ (look (p ++ _) t) _
        rw [look_append, hother ops.size (by rw [hdi]; exact hdt), ← look_append]
        have : ((a.put o.dst u).tmps).getD t undef = a.tmps.getD t undef := by
         cases hq : o.dst with
         | none => rfl
         | some d =>
          have hne : d ≠ t := fun h => hdt (by rw [hq, h])
          simp [Act.put, Array.getD_eq_getD_getElem?, Array.getElem?_setIfInBounds_ne hne]
        rw [this]
        exact hr'.slot t
     unfold wpOp
     simp only [ho]
     rcases hcase with ⟨hruns, hq⟩ | ⟨⟨g, t, b, hg, ht2, hv⟩, hVi⟩
     ·have hw : Region.wanted o (yielded ops a.tmps) = true := by
       cases hruns with
       | plain hg => exact wanted_none hg
       | guard g t b hg ht2 hv =>
        exact Runs.wanted (st := ⟨p ++ slD (fun i => listed.getD i false) st.slots dH V ops.size, objs⟩) (.guard g t b hg ht2 (by rw [hguard g t b hg ht2]; exact hv)) hr
      rw [if_pos hw]
      obtain ⟨f, x, hfx⟩ := ov_of hol (hcls i hin2 hTi hfi)
      have hq' := hq f x
      rw [← hfx] at hq'
      exact .inl (hq' e loc w a hr.heap hev _ _ hnext)
     ·have hw : Region.wanted o (yielded ops a.tmps) = false := by
       refine notB_wanted (v := look (p ++ slD (fun i => listed.getD i false) st.slots dH V ops.size) t) ?_ hg ht2 (hr.slot t)
       rw [hguard g t b hg ht2]; exact hv
      rw [hw]
      simp only [Bool.false_eq_true, if_false]
      exact hnext undef w (Below.refl _ _) (by rw [hVi]; rfl)
    | true =>
     have hTm := memB_out hTi
     have hnd : memB done i = false := by rw [← hdone i hTm]; exact hfi
     have hrdy : i ∈ tailReady anc T done := by
      unfold tailReady
      refine List.mem_filter.2 ⟨hTm, ?_⟩
      simp only [hnd, Bool.not_false, Bool.true_and, List.all_eq_true, Bool.or_eq_true, Bool.not_eq_true']
      intro j hj
      cases hq : memB (ancAt anc i) j with
      | false => exact .inl rfl
      | true => exact .inr (by rw [← hdone j hj]; exact hanc j (memB_out hq))
     cases k with
     | zero => rw [htr.1] at hrdy; cases hrdy
     | succ k =>
      rcases htr with ⟨h0, _⟩ | ⟨_, hst⟩
      ·rw [h0] at hrdy; cases hrdy
      obtain ⟨o', v, objs', Wi, ho', hg, hdst, hlen2, hsame, hfree, hE, htr'⟩ := hst.mem hrdy
      rw [ho] at ho'
      cases ho'
      have hlen2 := Nat.le_of_ble_eq_true hlen2
      have hlk : ∀ t, t ∈ readsOf ops o → look (p ++ sH) t = look (p ++ slD (fun i => listed.getD i false) st.slots dH V ops.size) t := by
       intro t ht
       rw [look_append, look_append]
       split
       ·rfl
       ·rw [← hFm, hFs ops.size (Nat.le_refl _)]
        have : ∀ q, q ≤ ops.size → look (slD (fun _ => true) st.slots dH V q) t = look (slD (fun i => listed.getD i false) st.slots dH V q) t := by
         intro q
         induction q with
         | zero => intro _; rfl
         | succ q ihq =>
          intro hq
          rw [look_slD, look_slD, ihq (by omega)]
          by_cases hdq : dH q = some t
          ·have hTq : memB T q = false := by
            cases h : memB T q with
            | false => rfl
            | true => rw [hdT q h] at hdq; cases hdq
           have hc := hclash1 q t (by omega) (by rw [← hdN q hTq]; exact hdq) ht
           have : listed.getD q false = true := by
            rcases Nat.lt_trichotomy q i with h | h | h
            ·exact hbefore q h (.inl hTq) hc.1
            ·subst h; rw [hTi] at hTq; cases hTq
            ·exfalso
             rcases draw2B_pair hd (show q < ops.size by omega) h (.inr hTq) with ⟨h5, _⟩ | h5
             ·rw [hTi] at h5; cases h5
             ·rw [hc.2] at h5; cases h5
           simp [this, hdq]
          ·simp [hdq]
        exact this ops.size (Nat.le_refl _)
      have hrE := hE (p ++ slD (fun i => listed.getD i false) st.slots dH V ops.size) e loc a w (hr.look (look_rs hlk))
      unfold wpOp
      simp only [ho]
      rw [if_pos (wanted_none hg)]
      refine .inl (hrE _ _ (fun a' w' loc' hr' => ?_))
      refine ihf _ _ _ loc' k (i :: done) (putS p o.dst v) objs' (by simp [hs]) hcl' hlen' (fun j hj => ?_) (fun x hx => ?_) (by omega) (fun h h1 h2 h3 j hj hW => ?_) htr' ?_
      ·rw [hget]
       by_cases hji : j = i
       ·subst hji; simp [memB]
       ·rw [if_neg hji, hdone j hj]
        have : Nat.beq j i = false := by
         cases hb : Nat.beq j i with
         | false => rfl
         | true => exact absurd (Nat.eq_of_beq_eq_true hb) hji
        simp only [memB, List.any_cons, this, Bool.false_or]
      ·cases hdo : o.dst with
       | none => rw [hdo] at hx; exact hp' x hx
       | some d =>
        rw [hdo] at hx
        simp only [putS, List.mem_cons] at hx
        rcases hx with rfl | hx
        ·exact ⟨i, hTi, hin2, by rw [hget, if_pos rfl], by rw [hdi, hdo]⟩
        ·exact hp' x hx
      ·have hhi : ¬ h = i := fun hh => by subst hh; rw [hTi] at h2; cases h2
       rw [hget, if_neg hhi] at h3
       have hfr := List.all_eq_true.1 hfree h (List.mem_range.2 h1)
       simp only [h2, Bool.false_or, Bool.or_eq_true] at hfr
       have hWi : (Wi.all fun k => memB (W h) k) = true := by
        rcases hfr with h4 | h4
        ·exfalso
         have := hanc h (memB_out h4)
         rw [h3] at this; cases this
        ·exact h4
       have hjW : memB Wi j = false := by
        cases hq : memB Wi j with
        | false => rfl
        | true =>
         have := List.all_eq_true.1 hWi j (memB_out hq)
         rw [hW] at this; cases this
       rcases hsame.out hj with h5 | h5
       ·rw [hjW] at h5; cases h5
       ·rw [h5]; exact hcls h h1 h2 h3 j hj hW
      ·refine hr'.look (fun t => ?_)
       have hfun : ∀ q, slD (fun j => (listed.setIfInBounds i true).getD j false) st.slots dH V q = slD (fun j => listed.getD j false) st.slots dH V q := by
        intro q
        induction q with
        | zero => rfl
        | succ q ihq =>
         simp only [slD]
         by_cases hqi : q = i
         ·subst hqi
          rw [hget, if_pos rfl, hfi, hdT q hTi, ihq]; rfl
         ·rw [hget, if_neg hqi, ihq]
       rw [hfun]
       have e1 : putS p o.dst v ++ slD (fun j => listed.getD j false) st.slots dH V ops.size = putS (p ++ slD (fun j => listed.getD j false) st.slots dH V ops.size) o.dst v := by cases o.dst <;> rfl
       rw [e1, look_putS, look_putS, look_rs hlk]
 refine main ops.size _ a w.drew loc T.length [] [] st.objs (by simp) (fun i o h _ => ?_) ?_ (fun j hj => ?_) (fun x hx => by cases hx) (Nat.le_refl _) (fun _ _ _ _ _ _ _ => rfl) ht ?_
 ·exfalso
  by_cases hi : i < ops.size
  ·simp [Array.getD, hi] at h
  ·simp [Array.getD, hi] at h
 ·refine Nat.le_trans (List.length_filter_le _ _) (by simp)
 ·by_cases hq : j < ops.size <;> simp [Array.getD, hq, memB]
 ·have e1 : ∀ q, slD (fun i => (Array.replicate ops.size false).getD i false) st.slots dH V q = st.slots := by
   intro q
   induction q with
   | zero => rfl
   | succ q ih =>
    have : (Array.replicate ops.size false).getD q false = false := by
     by_cases hq : q < ops.size <;> simp [Array.getD, hq]
    simp only [slD, this, ih]
  rw [e1]
  exact hr0
end
section
variable {P : Program} {o : Oper} {ev : Operand → AV} {objs : List Ob} {f : Nat} {args : Array Operand} {tys : Array TypeId}
end
end Go.Proofs.Ytoncfkdgddfnlaa.E
