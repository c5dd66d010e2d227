/- Calls that hand objects over and are lent others; functions that carry a pointer to an object of one's own. -/
import Derived.Test.YtoncfkdgddfnlaaEngV
namespace Go.Proofs.Ytoncfkdgddfnlaa.E
open Go Go.RowKit
set_option linter.unusedVariables false
def LendC (objs : List Ob) (lid : List Nat) (ρ : Nat → Nat) (m : Nat) (c c' : Cell) : Prop :=
 (c'.idLt m = true ∧ c = renC ρ c') ∨ (∃ id T k n len get get', c = .own id len ∧ c' = .vec len k get' ∧ objs[id]? = some (.arr T k n get) ∧ len ≤ n ∧ (∀ i, i < len → ∀ j, j < k → get i j = get' i j) ∧ id ∈ lid) ∨
 (∃ k get', c = .raw (.slice none 0 0) ∧ c' = .vec 0 k get')
def LendCL (objs : List Ob) (lid : List Nat) (ρ : Nat → Nat) (m : Nat) : List Cell → List Cell → Prop
 | [], [] => True
 | c :: l, c' :: l' => LendC objs lid ρ m c c' ∧ LendCL objs lid ρ m l l'
 | _, _ => False
def LendA2 (objs : List Ob) (lid : List Nat) (ρ : Nat → Nat) (m : Nat) : AV → AV → Prop
 | .c c, .c c' => LendC objs lid ρ m c c'
 | .a l, .a l' => LendCL objs lid ρ m l l'
 | _, _ => False
def LendAL (objs : List Ob) (lid : List Nat) (ρ : Nat → Nat) (m : Nat) : List AV → List AV → Prop
 | [], [] => True
 | c :: l, c' :: l' => LendA2 objs lid ρ m c c' ∧ LendAL objs lid ρ m l l'
 | _, _ => False
section
variable {objs : List Ob} {lid : List Nat} {ρ : Nat → Nat} {m : Nat} {e : Env} {loc : Loc} {w : World} {x' : Ctx}
theorem LendC.down (hr : HRep e objs loc w) (hw : x'.w = w) (hO : ∀ b, x'.O b → (ctx e objs loc w).O b) (hl : ∀ i, i < m → x'.B i ∧ x'.loc i = loc (ρ i))
  (hd : ∀ k ∈ lid, ∀ o' b c, objs[k]? = some o' → o'.live = true → loc k = some (b, c) → ¬ x'.O b) {c c' : Cell} {v : Value} (h : LendC objs lid ρ m c c') (hv : RepC (ctx e objs loc w) true c v) : RepC x' true c' v := by
 rcases h with ⟨hi, rfl⟩ | ⟨id, T, k, n, len, get, get', rfl, rfl, hob, hle, hgg, hid⟩ | ⟨k, get', rfl, rfl⟩
 ·exact RepC.downR (x := ctx e objs loc w) ρ m hw hO hl c' true v hi hv
 ·obtain ⟨_, _, hm⟩ := hv
  cases hlo : loc id with
  | none =>
   have : (ctx e objs loc w).loc id = none := hlo
   rw [this] at hm
   obtain ⟨hv, h0⟩ := hm
   subst h0
   exact ⟨none, 0, hv, Nat.le_refl _, fun hn => absurd hn (Nat.lt_irrefl 0)⟩
  | some bc =>
   obtain ⟨b, c⟩ := bc
   have : (ctx e objs loc w).loc id = some (b, c) := hlo
   rw [this] at hm
   have hm' : v = .slice (some ⟨b, 0, none⟩) len c := hm
   obtain ⟨arr, hh2, hsz, hnc, hcm, hg⟩ := hr.arr hob hlo
   refine ⟨_, c, hm', Nat.le_trans hle hnc, fun hn0 hk0 => ⟨b, 0, rfl, hd id hid _ b c hob rfl hlo, fun i hi j hj => ?_⟩⟩
   obtain ⟨y, hy, hrep⟩ := hg i (by omega) j hj
   refine ⟨y, ?_, ?_⟩
   ·rw [hw]
    show w.cell? ⟨b, 0 + i * k + j, none⟩ = some y
    rw [cell_of_heap hh2, Nat.zero_add]; exact hy
   ·rw [← hgg i hi j hj]
    exact RepC.weak (x := ctx e objs loc w) hw hO _ y hrep
 ·have h1' : v = .slice none 0 0 := hv
  exact ⟨none, 0, h1', Nat.le_refl _, fun hn => absurd hn (Nat.lt_irrefl 0)⟩
theorem LendCL.down (hr : HRep e objs loc w) (hw : x'.w = w) (hO : ∀ b, x'.O b → (ctx e objs loc w).O b) (hl : ∀ i, i < m → x'.B i ∧ x'.loc i = loc (ρ i))
  (hd : ∀ k ∈ lid, ∀ o' b c, objs[k]? = some o' → o'.live = true → loc k = some (b, c) → ¬ x'.O b) : ∀ (l l' : List Cell) (vs : List Value), LendCL objs lid ρ m l l' → RepL (ctx e objs loc w) true l vs → RepL x' true l' vs
 | [], [], [], _, _ => trivial
 | _ :: _, _ :: _, _ :: _, h, hv => ⟨LendC.down hr hw hO hl hd h.1 hv.1, LendCL.down hr hw hO hl hd _ _ _ h.2 hv.2⟩
 | [], _ :: _, _, h, _ => h.elim
 | _ :: _, [], _, h, _ => h.elim
 | [], [], _ :: _, _, hv => hv.elim
 | _ :: _, _ :: _, [], _, hv => hv.elim
theorem LendAL.down (hr : HRep e objs loc w) (hw : x'.w = w) (hO : ∀ b, x'.O b → (ctx e objs loc w).O b) (hl : ∀ i, i < m → x'.B i ∧ x'.loc i = loc (ρ i))
  (hd : ∀ k ∈ lid, ∀ o' b c, objs[k]? = some o' → o'.live = true → loc k = some (b, c) → ¬ x'.O b) : ∀ (l l' : List AV) (vs : List Value), LendAL objs lid ρ m l l' → RepAL (ctx e objs loc w) l vs → RepAL x' l' vs
 | [], [], [], _, _ => trivial
 | a :: l, a' :: l', v :: vs, h, hv => by
  refine ⟨?_, LendAL.down hr hw hO hl hd _ _ _ h.2 hv.2⟩
  have h1 := h.1
  have h2 := hv.1
  cases a with
  | c c => cases a' with
   | c c' => exact LendC.down hr hw hO hl hd h1 h2
   | _ => exact h1.elim
  | a q => cases a' with
   | a q' => obtain ⟨us, rfl, hu⟩ := h2; exact ⟨us, rfl, LendCL.down hr hw hO hl hd _ _ _ h1 hu⟩
   | _ => exact h1.elim
  | t _ => exact h1.elim
 | [], _ :: _, _, h, _ => h.elim
 | _ :: _, [], _, h, _ => h.elim
 | [], [], _ :: _, _, hv => hv.elim
 | _ :: _, _ :: _, [], _, hv => hv.elim
end
section
variable {P : Program} {N : Fr} {o : Oper} {st : St} {d : Nat} {f : FuncId} {args : Array Operand} {tys : Array TypeId} {ev : Operand → AV} {objs : List Ob}
end
def ci (n : Int) : AV := .c (.int .i64 n)
def renAV (f : Nat → Nat) : AV → AV
 | .c q => .c (q.ren f)
 | .a l => .a (l.map (Cell.ren f))
 | .t l => .t (l.map (V1.ren f))
def okAV (m : Nat) : AV → Bool
 | .c q => q.ok m
 | .a l => l.all (Cell.ok m)
 | .t l => l.all (V1.ok m)
def lkL (s : List (Nat × AV)) : List (Nat × AV) → List AV
 | [] => []
 | (t, _) :: r => look s t :: lkL s r
def rnL (f : Nat → Nat) : List (Nat × AV) → List AV
 | [] => []
 | (_, v) :: r => renAV f v :: rnL f r
def okL (m : Nat) : List (Nat × AV) → Bool
 | [] => true
 | (_, v) :: r => okAV m v && okL m r
theorem lsub_all {old : List Ob} {ids : List Nat} : ∀ (l : List Cell), l.all (Cell.ok ids.length) = true → LSub old ids (l.map (Cell.ren (idOf ids))) l
 | [], _ => trivial
 | c :: l, h => by
  simp only [List.all_cons, Bool.and_eq_true] at h
  exact ⟨ii h.1 rfl, lsub_all l h.2⟩
theorem zall {st : St} {ids : List Nat} : ∀ {l : List (Nat × AV)}, lkL st.slots l = rnL (idOf ids) l → okL ids.length l = true → SlotsSub st ids l
 | [], _, _ => trivial
 | (t, v) :: r, h1, h2 => by
  simp only [lkL, rnL, List.cons.injEq] at h1
  simp only [okL, Bool.and_eq_true] at h2
  refine ⟨?_, zall h1.2 h2.2⟩
  cases v with
  | c q => exact zc h1.1 h2.1
  | a l => exact ⟨_, h1.1, lsub_all l h2.1⟩
  | t l => exact ⟨h2.1, h1.1⟩
theorem bx {old : List Ob} {ids : List Nat} {k : Nat} {cs cs' : List Cell} (h : old[k]? = some (.box cs)) (h1 : cs = cs'.map (Cell.ren (idOf ids))) (h2 : cs'.all (Cell.ok ids.length) = true) : OSub old ids k (.box cs') :=
 ⟨_, h, by rw [h1]; exact lsub_all cs' h2⟩
section
variable {P : Program} {N : Fr} {ops : Array Oper} {i : Nat} {rest : List Nat} {st : St} {K : St → Prop} {o : Oper}
theorem sq {v : AV} (ho : ops[i]? = some o) (hd : (o.guard.isNone && dstOk N.N o.dst) = true) (q : QOp P o (evs st.slots) st.objs v) (k : SOps P N ops rest (st.put o.dst v) K) : SOps P N ops (i :: rest) st K := by
 simp only [Bool.and_eq_true, Option.isNone_iff_eq_none] at hd
 exact SOps.q ho (.plain hd.1) hd.2 q k
theorem sm {d : Option Tmp} {x : Operand} {ty : TypeId} {ps : String} {af : Array Edge} (ho : ops[i]? = some { dst := d, op := .move x, type := ty, pos := ps, after := af, guard := none }) (hd : dstOk N.N d = true) (k : SOps P N ops rest (st.put d (evs st.slots x)) K) : SOps P N ops (i :: rest) st K := SOps.q ho (.plain rfl) hd (q_move rfl rfl) k
theorem sa {d : Option Tmp} {x : Operand} {ty : TypeId} {ps : String} {af : Array Edge} (ho : ops[i]? = some { dst := d, op := .assign x, type := ty, pos := ps, after := af, guard := none }) (hd : dstOk N.N d = true) (k : SOps P N ops rest (st.put d (evs st.slots x)) K) : SOps P N ops (i :: rest) st K := SOps.q ho (.plain rfl) hd (q_assign rfl rfl) k
theorem se {st' : St} (ho : ops[i]? = some o) (hg : o.guard = none) (q : EOp P N o st st') (k : SOps P N ops rest st' K) : SOps P N ops (i :: rest) st K := SOps.e ho (.plain hg) q k
end
theorem nm {id : Nat} {ids : List Nat} (h : ids.any (Nat.beq id) = false) : id ∉ ids := by
 intro hm
 have : ids.any (Nat.beq id) = true := List.any_eq_true.2 ⟨id, hm, by simp⟩
 rw [h] at this
 cases this
def QK (P : Program) (N : Nat) (ops : Array Oper) (objs : List Ob) (i m : Nat) (s : List (Nat × AV)) (K : List (Nat × AV) → Prop) : Prop := ∃ s', QChain P N ops objs i m s s' ∧ K s'
section
variable {P : Program} {N : Nat} {ops : Array Oper} {objs : List Ob} {i m : Nat} {s : List (Nat × AV)} {K : List (Nat × AV) → Prop} {o : Oper}
theorem QK.nil (h : K s) : QK P N ops objs i i s K := ⟨s, .nil i s, h⟩
theorem QK.run {v : AV} (ho : ops[i]? = some o) (hg : Runs ops ⟨s, objs⟩ o) (hd : dstOk N o.dst = true) (q : QOp P o (evs s) objs v) (k : QK P N ops objs (i + 1) m (putS s o.dst v) K) : QK P N ops objs i m s K := by
 obtain ⟨s', h1, h2⟩ := k
 exact ⟨s', .run ho hg hd q h1, h2⟩
theorem QK.skip (ho : ops[i]? = some o) (hg : Skips ops s o) (hd : dstOk N o.dst = true) (k : QK P N ops objs (i + 1) m (putS s o.dst (.c (.raw (.tuple #[])))) K) : QK P N ops objs i m s K := by
 obtain ⟨s', h1, h2⟩ := k
 exact ⟨s', .skip ho hg hd h1, h2⟩
theorem qr {v : AV} (ho : ops[i]? = some o) (hd : (o.guard.isNone && dstOk N o.dst) = true) (q : QOp P o (evs s) objs v) (k : QK P N ops objs (i + 1) m (putS s o.dst v) K) : QK P N ops objs i m s K := by
 simp only [Bool.and_eq_true, Option.isNone_iff_eq_none] at hd
 exact QK.run ho (.plain hd.1) hd.2 q k
theorem qm {d : Option Tmp} {x : Operand} {ty : TypeId} {ps : String} {af : Array Edge} (ho : ops[i]? = some { dst := d, op := .move x, type := ty, pos := ps, after := af, guard := none }) (hd : dstOk N d = true) (k : QK P N ops objs (i + 1) m (putS s d (evs s x)) K) : QK P N ops objs i m s K := QK.run ho (.plain rfl) hd (q_move rfl rfl) k
end
theorem SCode.drawK {P : Program} {N : Fr} {ops : Array Oper} {id : Nat} {st : St} {Q : Exit → St → Prop} (hm : P.follows .mixedOrders = true) (anc : List (List Nat)) (m k : Nat) (hk : Nat.beq (m + k) ops.size = true) (hd : drawB ops anc m = true)
  (h : QK P N.N ops st.objs 0 m st.slots (fun s' => SOps P N ops (List.range' m k) ⟨s', st.objs⟩ (Q .normal))) : SCode P N (.region id ops true) st Q := by
 obtain ⟨s', h1, h2⟩ := h
 exact SCode.draw hm anc m k hk hd h1 h2
section
variable {P : Program} {N : Fr} {ops : Array Oper} {anc : List (List Nat)} {T : List Nat} {n0 : Nat} {W : Nat → List Nat} {sH : List (Nat × AV)} {stF : St} {k : Nat} {done : List Nat} {p : List (Nat × AV)} {objs objs' : List Ob}
theorem same_take {a b : List Ob} : ∀ (n : Nat), b.take n = a.take n → SameP a b [] n
 | 0, _ => trivial
 | n + 1, h => by
  have h1 : ∀ j, j < n + 1 → b[j]? = a[j]? := fun j hj => by
   have := congrArg (·[j]?) h
   simpa [List.getElem?_take, hj] using this
  refine ⟨same_take n ?_, .inr (h1 n (Nat.lt_succ_self n))⟩
  have := congrArg (List.take n) h
  simpa [List.take_take, Nat.min_eq_left (Nat.le_succ n)] using this
theorem td {i : Nat} {o : Oper} {v : AV} (d : Nat) (ho : ops[i]? = some o) (hdd : o.dst = some d) (hg : o.guard = none) (hd : dstOk N.N (some d) = true) (hf : freeB ops anc T W [] i = true)
  (q : ∀ s2, EOp P N o ⟨rs ops o (p ++ sH) ++ s2, objs⟩ ⟨(d, v) :: (rs ops o (p ++ sH) ++ s2), objs'⟩) (hl : Nat.ble objs.length objs'.length = true) (hs : objs'.take n0 = objs.take n0) (hk : TTree P N ops anc T n0 W sH stF k (i :: done) ((d, v) :: p) objs') :
  TStep P N ops anc T n0 W sH stF k done p objs i := TStep.d [] d ho hdd hg hd hf q ⟨hl, same_take n0 hs, hk⟩
theorem t1 (i : Nat) (hl : tailReady anc T done = [i]) (h : TStep P N ops anc T n0 W sH stF k done p objs i) : TTree P N ops anc T n0 W sH stF (k + 1) done p objs := TTree.node i [] hl (AllP.cons h AllP.nil)
theorem tl (hl : tailReady anc T done = []) (hs : Sub N ⟨p ++ sH, objs⟩ stF) : TTree P N ops anc T n0 W sH stF k done p objs := TTree.leaf hl hs
end
end Go.Proofs.Ytoncfkdgddfnlaa.E
