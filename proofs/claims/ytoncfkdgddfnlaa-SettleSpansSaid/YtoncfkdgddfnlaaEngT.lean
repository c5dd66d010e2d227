/- Regions that draw their order: straight operations and steps with effects, in any order that the edges leave. -/
import Derived.Test.YtoncfkdgddfnlaaEngS
namespace Go.Proofs.Ytoncfkdgddfnlaa.E
open Go Go.RowKit
set_option linter.unusedVariables false
def ovG (W : List Nat) (f : Nat → Ob) : Nat → List Ob → List Ob
 | _, [] => []
 | k, o :: os => (match memB W k with | true => f k | false => o) :: ovG W f (k + 1) os
def ov (objs : List Ob) (W : List Nat) (f : Nat → Ob) (x : List Ob) : List Ob := ovG W f 0 objs ++ x
inductive HChain (P : Program) (N : Nat) (ops : Array Oper) (T : List Nat) (objs : List Ob) (W : Nat → List Nat) : Nat → Nat → List (Nat × AV) → List (Nat × AV) → Prop
 | nil (i : Nat) (s : List (Nat × AV)) : HChain P N ops T objs W i i s s
 | tail {i m : Nat} {s s' : List (Nat × AV)} (hT : memB T i = true) (k : HChain P N ops T objs W (i + 1) m s s') : HChain P N ops T objs W i m s s'
 | run {i m : Nat} {s s' : List (Nat × AV)} {o : Oper} {v : AV} (hT : memB T i = false) (ho : ops[i]? = some o) (hg : Runs ops ⟨s, objs⟩ o) (hd : dstOk N o.dst = true) (q : ∀ f x, QOp P o (evs s) (ov objs (W i) f x) v) (k : HChain P N ops T objs W (i + 1) m (putS s o.dst v) s') : HChain P N ops T objs W i m s s'
 | skip {i m : Nat} {s s' : List (Nat × AV)} {o : Oper} (hT : memB T i = false) (ho : ops[i]? = some o) (hg : Skips ops s o) (hd : dstOk N o.dst = true) (k : HChain P N ops T objs W (i + 1) m (putS s o.dst (.c (.raw (.tuple #[])))) s') : HChain P N ops T objs W i m s s'
def HStep (P : Program) (N : Nat) (ops : Array Oper) (T : List Nat) (objs : List Ob) (W : Nat → List Nat) (F : Nat → List (Nat × AV)) (j : Nat) : Prop :=
 (memB T j = true ∧ F (j + 1) = F j) ∨ (memB T j = false ∧ ∃ o v, ops[j]? = some o ∧ dstOk N o.dst = true ∧ F (j + 1) = putS (F j) o.dst v ∧
  ((Runs ops ⟨F j, objs⟩ o ∧ ∀ f x, QOp P o (evs (F j)) (ov objs (W j) f x) v) ∨ (Skips ops (F j) o ∧ v = .c (.raw (.tuple #[])))))
theorem HStep.congr {P : Program} {N : Nat} {ops : Array Oper} {T : List Nat} {objs : List Ob} {W : Nat → List Nat} {F G : Nat → List (Nat × AV)} {j : Nat} (h : HStep P N ops T objs W F j) (h1 : G j = F j) (h2 : G (j + 1) = F (j + 1)) : HStep P N ops T objs W G j := by
 unfold HStep at h ⊢
 rw [h1, h2]
 exact h
theorem HChain.out {P : Program} {N : Nat} {ops : Array Oper} {T : List Nat} {objs : List Ob} {W : Nat → List Nat} {i m : Nat} {s s' : List (Nat × AV)} (h : HChain P N ops T objs W i m s s') : i ≤ m ∧ ∃ F : Nat → List (Nat × AV), F i = s ∧ F m = s' ∧
  ∀ j, i ≤ j → j < m → HStep P N ops T objs W F j := by
 have cons : ∀ {i m : Nat} {s s1 s' : List (Nat × AV)} (F : Nat → List (Nat × AV)), i + 1 ≤ m → F (i + 1) = s1 → F m = s' → (∀ j, i + 1 ≤ j → j < m → HStep P N ops T objs W F j) →
   (∀ G : Nat → List (Nat × AV), G i = s → G (i + 1) = s1 → HStep P N ops T objs W G i) → i ≤ m ∧ ∃ F : Nat → List (Nat × AV), F i = s ∧ F m = s' ∧ ∀ j, i ≤ j → j < m → HStep P N ops T objs W F j := by
  intro i m s s1 s' F him h1 h2 h3 h4
  refine ⟨by omega, fun j => if j ≤ i then s else F j, by simp, ?_, fun j hj1 hj2 => ?_⟩
  ·simp only [show ¬ m ≤ i by omega, if_false]; exact h2
  ·by_cases hj : j = i
   ·subst hj
    exact h4 _ (by simp) (by simp [show ¬ j + 1 ≤ j by omega, h1])
   ·refine (h3 j (by omega) hj2).congr ?_ ?_
    ·simp [show ¬ j ≤ i by omega]
    ·simp [show ¬ j + 1 ≤ i by omega]
 induction h with
 | nil i s => exact ⟨Nat.le_refl _, fun _ => s, rfl, rfl, fun j h1 h2 => by omega⟩
 | tail hT k ih =>
  obtain ⟨him, F, h1, h2, h3⟩ := ih
  exact cons F him h1 h2 h3 (fun G g1 g2 => .inl ⟨hT, by rw [g1, g2]⟩)
 | run hT ho hg hd q k ih =>
  obtain ⟨him, F, h1, h2, h3⟩ := ih
  exact cons F him h1 h2 h3 (fun G g1 g2 => .inr ⟨hT, _, _, ho, hd, by rw [g1, g2], .inl ⟨by rw [g1]; exact hg, by rw [g1]; exact q⟩⟩)
 | skip hT ho hg hd k ih =>
  obtain ⟨him, F, h1, h2, h3⟩ := ih
  exact cons F him h1 h2 h3 (fun G g1 g2 => .inr ⟨hT, _, _, ho, hd, by rw [g1, g2], .inr ⟨by rw [g1]; exact hg, rfl⟩⟩)
def AllP : List Nat → (Nat → Prop) → Prop
 | [], _ => True
 | i :: l, F => F i ∧ AllP l F
theorem AllP.nil {F : Nat → Prop} : AllP [] F := trivial
theorem AllP.cons {F : Nat → Prop} {i : Nat} {l : List Nat} (h : F i) (k : AllP l F) : AllP (i :: l) F := ⟨h, k⟩
theorem AllP.mem {F : Nat → Prop} : ∀ {l : List Nat} (_ : AllP l F) {i : Nat} (_ : i ∈ l), F i
 | _ :: _, h, _, .head _ => h.1
 | _ :: _, h, _, .tail _ hi => AllP.mem h.2 hi
def SameP (a b : List Ob) (W : List Nat) : Nat → Prop
 | 0 => True
 | n + 1 => SameP a b W n ∧ (memB W n = true ∨ b[n]? = a[n]?)
theorem SameP.zero {a b : List Ob} {W : List Nat} : SameP a b W 0 := trivial
theorem SameP.s {a b : List Ob} {W : List Nat} {n : Nat} (h : SameP a b W n) (k : b[n]? = a[n]?) : SameP a b W (n + 1) := ⟨h, .inr k⟩
theorem SameP.w {a b : List Ob} {W : List Nat} {n : Nat} (h : SameP a b W n) (k : memB W n = true) : SameP a b W (n + 1) := ⟨h, .inl k⟩
theorem SameP.out {a b : List Ob} {W : List Nat} : ∀ {n : Nat} (_ : SameP a b W n) {j : Nat} (_ : j < n), memB W j = true ∨ b[j]? = a[j]?
 | n + 1, h, j, hj => by
  rcases Nat.lt_succ_iff_lt_or_eq.1 hj with h1 | h1
  ·exact SameP.out h.1 h1
  ·subst h1; exact h.2
def tailReady (anc : List (List Nat)) (T done : List Nat) : List Nat :=
 T.filter fun i => !memB done i && T.all fun j => !memB (ancAt anc i) j || memB done j
def rs (ops : Array Oper) (o : Oper) (s : List (Nat × AV)) : List (Nat × AV) := (readsOf ops o).map fun t => (t, look s t)
section
variable (P : Program) (N : Fr) (ops : Array Oper) (anc : List (List Nat)) (T : List Nat) (n0 : Nat) (W : Nat → List Nat) (sH : List (Nat × AV)) (stF : St)
def freeB (Wi : List Nat) (i : Nat) : Bool := (List.range ops.size).all fun h => memB T h || memB (ancAt anc i) h || Wi.all fun k => memB (W h) k
def TTree : Nat → List Nat → List (Nat × AV) → List Ob → Prop
 | 0, done, p, objs => tailReady anc T done = [] ∧ Sub N ⟨p ++ sH, objs⟩ stF
 | k + 1, done, p, objs => (tailReady anc T done = [] ∧ Sub N ⟨p ++ sH, objs⟩ stF) ∨ (tailReady anc T done ≠ [] ∧ AllP (tailReady anc T done) fun i => ∃ o v objs' Wi, ops[i]? = some o ∧ o.guard = none ∧ dstOk N.N o.dst = true ∧
   Nat.ble objs.length objs'.length = true ∧ SameP objs objs' Wi n0 ∧ freeB ops anc T W Wi i = true ∧
   (∀ s2, EOp P N o ⟨rs ops o (p ++ sH) ++ s2, objs⟩ ⟨putS (rs ops o (p ++ sH) ++ s2) o.dst v, objs'⟩) ∧ TTree k (i :: done) (putS p o.dst v) objs')
end
section
variable {P : Program} {N : Fr} {ops : Array Oper} {anc : List (List Nat)} {T : List Nat} {n0 : Nat} {W : Nat → List Nat} {sH : List (Nat × AV)} {stF : St}
def TStep (P : Program) (N : Fr) (ops : Array Oper) (anc : List (List Nat)) (T : List Nat) (n0 : Nat) (W : Nat → List Nat) (sH : List (Nat × AV)) (stF : St) (k : Nat) (done : List Nat) (p : List (Nat × AV)) (objs : List Ob) (i : Nat) : Prop :=
 ∃ o v objs' Wi, ops[i]? = some o ∧ o.guard = none ∧ dstOk N.N o.dst = true ∧
   Nat.ble objs.length objs'.length = true ∧ SameP objs objs' Wi n0 ∧ freeB ops anc T W Wi i = true ∧
   (∀ s2, EOp P N o ⟨rs ops o (p ++ sH) ++ s2, objs⟩ ⟨putS (rs ops o (p ++ sH) ++ s2) o.dst v, objs'⟩) ∧ TTree P N ops anc T n0 W sH stF k (i :: done) (putS p o.dst v) objs'
theorem TTree.node {k : Nat} {done : List Nat} {p : List (Nat × AV)} {objs : List Ob} (i : Nat) (l : List Nat) (hl : tailReady anc T done = i :: l) (h : AllP (i :: l) (TStep P N ops anc T n0 W sH stF k done p objs)) : TTree P N ops anc T n0 W sH stF (k + 1) done p objs :=
 .inr ⟨by rw [hl]; simp, by rw [hl]; exact h⟩
theorem TStep.mk {k : Nat} {done : List Nat} {p : List (Nat × AV)} {objs objs' : List Ob} {i : Nat} {o : Oper} {v : AV} (Wi : List Nat) (ho : ops[i]? = some o) (hg : o.guard = none) (hd : dstOk N.N o.dst = true)
  (hf : freeB ops anc T W Wi i = true)
  (q : ∀ s2, EOp P N o ⟨rs ops o (p ++ sH) ++ s2, objs⟩ ⟨putS (rs ops o (p ++ sH) ++ s2) o.dst v, objs'⟩) (hl : Nat.ble objs.length objs'.length = true) (hs : SameP objs objs' Wi n0) (kk : TTree P N ops anc T n0 W sH stF k (i :: done) (putS p o.dst v) objs') :
  TStep P N ops anc T n0 W sH stF k done p objs i := ⟨o, v, objs', Wi, ho, hg, hd, hl, hs, hf, q, kk⟩
theorem TStep.d {k : Nat} {done : List Nat} {p : List (Nat × AV)} {objs objs' : List Ob} {i : Nat} {o : Oper} {v : AV} (Wi : List Nat) (d : Nat) (ho : ops[i]? = some o) (hdd : o.dst = some d) (hg : o.guard = none) (hd : dstOk N.N (some d) = true)
  (hf : freeB ops anc T W Wi i = true)
  (q : ∀ s2, EOp P N o ⟨rs ops o (p ++ sH) ++ s2, objs⟩ ⟨(d, v) :: (rs ops o (p ++ sH) ++ s2), objs'⟩) (hk : Nat.ble objs.length objs'.length = true ∧ SameP objs objs' Wi n0 ∧ TTree P N ops anc T n0 W sH stF k (i :: done) ((d, v) :: p) objs') :
  TStep P N ops anc T n0 W sH stF k done p objs i := ⟨o, v, objs', Wi, ho, hg, by rw [hdd]; exact hd, hk.1, hk.2.1, hf, by rw [hdd]; exact q, by rw [hdd]; exact hk.2.2⟩
theorem TStep.n {k : Nat} {done : List Nat} {p : List (Nat × AV)} {objs objs' : List Ob} {i : Nat} {o : Oper} (Wi : List Nat) (ho : ops[i]? = some o) (hdd : o.dst = none) (hg : o.guard = none)
  (hf : freeB ops anc T W Wi i = true)
  (q : ∀ s2, EOp P N o ⟨rs ops o (p ++ sH) ++ s2, objs⟩ ⟨rs ops o (p ++ sH) ++ s2, objs'⟩) (hk : Nat.ble objs.length objs'.length = true ∧ SameP objs objs' Wi n0 ∧ TTree P N ops anc T n0 W sH stF k (i :: done) p objs') :
  TStep P N ops anc T n0 W sH stF k done p objs i := ⟨o, .c .any, objs', Wi, ho, hg, by rw [hdd]; rfl, hk.1, hk.2.1, hf, by rw [hdd]; exact q, by rw [hdd]; exact hk.2.2⟩
theorem EOp.q {o : Oper} {st : St} {v : AV} (hd : dstOk N.N o.dst = true) (q : QOp P o (evs st.slots) st.objs v) : EOp P N o st ⟨putS st.slots o.dst v, st.objs⟩ := by
 intro e loc a w hr K Q hK
 refine q e loc w a hr.heap (fun x _ => hr.eval x) _ _ ?_
 intro u w' hb hv
 have := (hr.below hb).put o.dst (dstOk_lt hd) hv
 obtain ⟨s, ob⟩ := st
 rw [put_eq] at this
 exact hK _ _ loc this
def draw2B (ops : Array Oper) (anc : List (List Nat)) (T : List Nat) : Bool :=
 (T.all fun i => Nat.blt i ops.size) && ((List.range ops.size).all fun j => edgesB ops anc j && ((List.range j).all fun i =>
  match memB T j with
  | true => memB T i || memB (ancAt anc j) i || !(clashB ops i j)
  | false => (!memB T i && memB (ancAt anc j) i) || !(clashB ops i j)))
theorem draw2B_lt (h : draw2B ops anc T = true) {i : Nat} (hi : i ∈ T) : i < ops.size := by
 simp only [draw2B, Bool.and_eq_true] at h
 simpa [Nat.blt_eq] using List.all_eq_true.1 h.1 i hi
end
theorem SRep.look {e : Env} {N : Fr} {s s' : List (Nat × AV)} {objs : List Ob} {loc : Loc} {a : Act} {w : World} (h : SRep e N ⟨s, objs⟩ loc a w) (hl : ∀ t, E.look s' t = E.look s t) : SRep e N ⟨s', objs⟩ loc a w :=
 ⟨h.heap, h.size, h.base, h.n0le, h.defers, fun t => by rw [show E.look (St.mk s' objs).slots t = E.look (St.mk s objs).slots t from hl t]; exact h.slot t⟩
theorem fin {P : Program} {N : Fr} {ops : Array Oper} {anc : List (List Nat)} {T : List Nat} {n0 : Nat} {W : Nat → List Nat} {sH : List (Nat × AV)} {stF : St} {st : St} {dH : Nat → Option Tmp} {V : Nat → AV} {F : Nat → List (Nat × AV)}
  {k : Nat} {done : List Nat} {p : List (Nat × AV)} {objs : List Ob} {e : Env} {loc : Loc} {a : Act} {w : World} {listed : Array Bool} (hd : draw2B ops anc T = true)
  (hFm : F ops.size = sH) (hFs : ∀ i, i ≤ ops.size → F i = slD (fun _ => true) st.slots dH V i) (hall : ∀ i, i < ops.size → listed.getD i false = true) (hdone : ∀ i, i ∈ T → listed.getD i false = memB done i)
  (htr : TTree P N ops anc T n0 W sH stF k done p objs) (hr : SRep e N ⟨p ++ slD (fun i => listed.getD i false) st.slots dH V ops.size, objs⟩ loc a w) : ∃ loc', SRep e N stF loc' a w := by
 have h0 : tailReady anc T done = [] := by
  unfold tailReady
  refine List.filter_eq_nil_iff.2 (fun i hi => ?_)
  have h1 := hall i (draw2B_lt hd hi)
  rw [hdone i hi] at h1
  simp [h1]
 have hs : Sub N ⟨p ++ sH, objs⟩ stF := by
  cases k with
  | zero => exact htr.2
  | succ k =>
   rcases htr with h | h
   ·exact h.2
   ·exact absurd h0 h.1
 have e1 : ∀ q, q ≤ ops.size → slD (fun i => listed.getD i false) st.slots dH V q = slD (fun _ => true) st.slots dH V q := by
  intro q
  induction q with
  | zero => intro _; rfl
  | succ q ih => intro hq; simp only [slD]; rw [hall q (by omega), ih (by omega)]
 rw [e1 ops.size (Nat.le_refl _), ← hFs ops.size (Nat.le_refl _), hFm] at hr
 exact hs e loc a w hr
section
variable {P : Program} {N : Fr} {ops : Array Oper} {sH : List (Nat × AV)}
end
section
variable {P : Program} {o : Oper} {ev : Operand → AV} {objs : List Ob} {f : Nat} {args : Array Operand} {tys : Array TypeId}
end
end Go.Proofs.Ytoncfkdgddfnlaa.E
