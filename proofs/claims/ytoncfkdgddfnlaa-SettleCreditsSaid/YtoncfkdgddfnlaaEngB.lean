/- The rules of control, and the straight operations. -/
import Derived.Test.YtoncfkdgddfnlaaEngA
namespace Go.Proofs.Ytoncfkdgddfnlaa.E
open Go Go.RowKit
set_option linter.unusedVariables false
def thenQ (K : St → Prop) (Q : Exit → St → Prop) : Exit → St → Prop
 | .normal, s => K s
 | x, s => Q x s
theorem SCode.seq {P : Program} {N : Fr} {x y : Code} {st : St} {Q : Exit → St → Prop} (h : SCode P N x st (thenQ (fun s => SCode P N y s Q) Q)) : SCode P N (.seq x y) st Q := by
 intro e loc a w hr
 refine wp_seq (wp_mono (h e loc a w hr) ?_)
 intro ex a' w' hq
 obtain ⟨st', loc', hq, hr'⟩ := hq
 cases ex with
 | normal => exact hq e loc' a' w' hr'
 | exit id => exact ⟨st', loc', hq, hr'⟩
 | goto l => exact ⟨st', loc', hq, hr'⟩
 | ret => exact ⟨st', loc', hq, hr'⟩
 | panic c => exact ⟨st', loc', hq, hr'⟩
 | outgrown => exact ⟨st', loc', hq, hr'⟩
theorem SCode.mono {P : Program} {N : Fr} {x : Code} {st : St} {Q Q' : Exit → St → Prop} (h : SCode P N x st Q) (hq : ∀ ex s, Q ex s → Q' ex s) : SCode P N x st Q' := by
 intro e loc a w hr
 refine wp_mono (h e loc a w hr) ?_
 intro ex a' w' hh
 obtain ⟨st', loc', hq', hr'⟩ := hh
 exact ⟨st', loc', hq _ _ hq', hr'⟩
theorem SCode.skip {P : Program} {N : Fr} {st : St} {Q : Exit → St → Prop} (h : Q .normal st) : SCode P N .skip st Q :=
 fun e loc a w hr => wp_skip ⟨st, loc, h, hr⟩
theorem SCode.exit {P : Program} {N : Fr} {st : St} {Q : Exit → St → Prop} {id : Nat} (h : Q (.exit id) st) : SCode P N (.exit id) st Q :=
 fun e loc a w hr => wp_exit ⟨st, loc, h, hr⟩
theorem SCode.ret {P : Program} {N : Fr} {st : St} {Q : Exit → St → Prop} (h : Q .ret st) : SCode P N .ret st Q :=
 fun e loc a w hr => wp_ret ⟨st, loc, h, hr⟩
theorem SCode.cond {P : Program} {N : Fr} {st : St} {Q : Exit → St → Prop} {c : Operand} {x y : Code} {b : Bool} (hc : evs st.slots c = .c (.bool b))
  (h1 : b = true → SCode P N x st Q) (h2 : b = false → SCode P N y st Q) : SCode P N (.cond c x y) st Q := by
 intro e loc a w hr
 have hv := hr.eval c
 rw [hc] at hv
 have hv' : a.eval c = .bool b := hv
 exact wp_cond_split hv' (fun hb => h1 hb e loc a w hr) (fun hb => h2 hb e loc a w hr)
theorem SCode.cond_t {P : Program} {N : Fr} {st : St} {Q : Exit → St → Prop} {c : Operand} {x y : Code} {b : Bool} (hc : evs st.slots c = .c (.bool b)) (hb : b = true)
  (h1 : SCode P N x st Q) : SCode P N (.cond c x y) st Q := SCode.cond hc (fun _ => h1) (fun h => by rw [hb] at h; cases h)
theorem SCode.cond_f {P : Program} {N : Fr} {st : St} {Q : Exit → St → Prop} {c : Operand} {x y : Code} {b : Bool} (hc : evs st.slots c = .c (.bool b)) (hb : b = false)
  (h1 : SCode P N y st Q) : SCode P N (.cond c x y) st Q := SCode.cond hc (fun h => by rw [hb] at h; cases h) (fun _ => h1)
def inBlk (id : Nat) (Q : Exit → St → Prop) : Exit → St → Prop
 | .exit id', s => match Nat.beq id' id with
  | true => Q .normal s
  | false => Q (.exit id') s
 | x, s => Q x s
theorem SCode.block {P : Program} {N : Fr} {id : Nat} {c : Code} {st : St} {Q : Exit → St → Prop} (h : SCode P N c st (inBlk id Q)) : SCode P N (.block id c) st Q := by
 intro e loc a w hr
 refine wp_block (wp_mono (h e loc a w hr) ?_)
 intro ex a' w' hq
 obtain ⟨st', loc', hq, hr'⟩ := hq
 cases ex with
 | exit id' =>
  simp only [inBlk] at hq
  simp only [Exit.inBlock]
  cases hb : Nat.beq id' id with
  | true =>
   have := Nat.eq_of_beq_eq_true hb
   rw [hb] at hq
   rw [if_pos this]
   exact ⟨st', loc', hq, hr'⟩
  | false =>
   have hne : ¬ id' = id := fun h => by subst h; simp at hb
   rw [hb] at hq
   rw [if_neg hne]
   exact ⟨st', loc', hq, hr'⟩
 | normal => exact ⟨st', loc', hq, hr'⟩
 | goto l => exact ⟨st', loc', hq, hr'⟩
 | ret => exact ⟨st', loc', hq, hr'⟩
 | panic c => exact ⟨st', loc', hq, hr'⟩
 | outgrown => exact ⟨st', loc', hq, hr'⟩
theorem wp_loop_ghost {P : Program} {Q : Exit → Act → World → Prop} {a : Act} {w : World} {c : Code} {σ : Type} (I : σ → Act → World → Prop) (μ : σ → Nat) (s0 : σ) (h₀ : I s0 a w)
  (round : ∀ s a w, I s a w → c.wp P (Exit.then (fun a' w' => ∃ s', I s' a' w' ∧ μ s' < μ s) Q) a w) : (Code.loop c).wp P Q a w := by
 intro b k cs
 have key : ∀ n s a w, μ s = n → I s a w →
   ∃ e a' w', Q e a' w' ∧ Arrives P (lone (b.at a (.code c :: .inLoop c :: k)) cs w) b k cs e a' w' := by
  intro n
  induction n using Nat.strongRecOn with
  | _ n ih =>
   intro s a w hn hI
   obtain ⟨e, a₁, w₁, hq, harr⟩ := round s a w hI b (.inLoop c :: k) cs
   cases e with
   | normal =>
    obtain ⟨s', hI₁, hlt⟩ := hq
    obtain ⟨e₂, a₂, w₂, hq₂, harr₂⟩ := ih (μ s') (hn ▸ hlt) s' a₁ w₁ rfl hI₁
    exact ⟨e₂, a₂, w₂, hq₂, .of_steps (Steps.trans harr (.one step_inLoop)) harr₂⟩
   | exit id => exact ⟨_, a₁, w₁, hq, .pass (x := .inLoop c) rfl (fun _ _ => .inl (by simp)) harr⟩
   | goto l => exact ⟨_, a₁, w₁, hq, .pass (x := .inLoop c) rfl (fun _ _ => .inl (by simp)) harr⟩
   | ret => exact ⟨_, a₁, w₁, hq, .pass (x := .inLoop c) rfl (fun _ _ => .inl (by simp)) harr⟩
   | panic ch => exact ⟨_, a₁, w₁, hq, .pass (x := .inLoop c) rfl (fun _ _ => .inl (by simp)) harr⟩
   | outgrown => exact ⟨_, a₁, w₁, hq, .pass (x := .inLoop c) rfl (fun _ _ => .inl (by simp)) harr⟩
 obtain ⟨e, a', w', hq, harr⟩ := key _ s0 a w rfl h₀
 exact ⟨e, a', w', hq, .of_steps (.one step_loop) harr⟩
def Sub (N : Fr) (st st' : St) : Prop := ∀ (e : Env) (loc : Loc) (a : Act) (w : World), SRep e N st loc a w → ∃ loc', SRep e N st' loc' a w
theorem SCode.sub {P : Program} {N : Fr} {x : Code} {st st' : St} {Q : Exit → St → Prop} (hs : Sub N st st') (h : SCode P N x st' Q) : SCode P N x st Q := by
 intro e loc a w hr
 obtain ⟨loc', hr'⟩ := hs e loc a w hr
 exact h e loc' a w hr'
theorem SCode.loop {P : Program} {N : Fr} {c : Code} {Q : Exit → St → Prop} {σ : Type} (S : σ → St) (g : σ → Prop) (μ : σ → Nat) (s0 : σ) (h0 : g s0)
  (round : ∀ s, g s → SCode P N c (S s) (thenQ (fun st' => ∃ s', g s' ∧ μ s' < μ s ∧ Sub N st' (S s')) Q)) : SCode P N (.loop c) (S s0) Q := by
 intro e loc a w hr
 refine wp_loop_ghost (fun s a w => g s ∧ ∃ loc, SRep e N (S s) loc a w) μ s0 ⟨h0, loc, hr⟩ ?_
 rintro s a w ⟨hg, loc, hr⟩
 refine wp_mono (round s hg e loc a w hr) ?_
 intro ex a' w' hq
 obtain ⟨st', loc', hq, hr'⟩ := hq
 cases ex with
 | normal =>
  obtain ⟨s', hg', hm, hsub⟩ := hq
  obtain ⟨loc2, hr2⟩ := hsub e loc' a' w' hr'
  exact ⟨s', ⟨hg', loc2, hr2⟩, hm⟩
 | exit id => exact ⟨st', loc', hq, hr'⟩
 | goto l => exact ⟨st', loc', hq, hr'⟩
 | ret => exact ⟨st', loc', hq, hr'⟩
 | panic c => exact ⟨st', loc', hq, hr'⟩
 | outgrown => exact ⟨st', loc', hq, hr'⟩
theorem SCode.region {P : Program} {N : Fr} {id : Nat} {ops : Array Oper} {st : St} {Q : Exit → St → Prop} (h : SOps P N ops (List.range ops.size) st (Q .normal)) : SCode P N (.region id ops false) st Q := by
 intro e loc a w hr
 refine wp_mono (wp_region (h e loc a w hr)) ?_
 rintro ex a' w' ⟨rfl, st', loc', hq, hr'⟩
 exact ⟨st', loc', hq, hr'⟩
theorem SOps.nil {P : Program} {N : Fr} {ops : Array Oper} {st : St} {K : St → Prop} (h : K st) : SOps P N ops [] st K :=
 fun e loc a w hr => ⟨rfl, st, loc, h, hr⟩
def dstOk (N : Nat) : Option Tmp → Bool
 | none => true
 | some t => Nat.blt t N
theorem dstOk_lt {N : Nat} {d : Option Tmp} (h : dstOk N d = true) : ∀ t, d = some t → t < N := by
 intro t ht
 subst ht
 simpa [dstOk, Nat.blt_eq] using h
theorem wanted_none {o : Oper} {ops : Array Oper} {tmps : Array Value} (h : o.guard = none) : Region.wanted o (yielded ops tmps) = true := by simp [Region.wanted, h]
inductive Runs (ops : Array Oper) (st : St) (o : Oper) : Prop
 | plain (h : o.guard = none)
 | guard (g t : Nat) (b : Bool) (h : o.guard = some (g, b)) (ht : (ops[g]?).bind (·.dst) = some t) (hv : look st.slots t = .c (.bool b))
theorem Runs.wanted {ops : Array Oper} {st : St} {o : Oper} (hr : Runs ops st o) {e : Env} {N : Fr} {loc : Loc} {a : Act} {w : World} (h : SRep e N st loc a w) :
  Region.wanted o (yielded ops a.tmps) = true := by
 cases hr with
 | plain hg => exact wanted_none hg
 | guard g t b hg ht hv =>
  have hs := h.slot t
  rw [hv] at hs
  have hs' : a.tmps.getD t undef = .bool b := hs
  simp only [Region.wanted, hg, yielded, ht, Option.bind_some]
  have : a.tmps[t]? = some (.bool b) := by
   rw [Array.getD_eq_getD_getElem?] at hs'
   cases hq : a.tmps[t]? with
   | none => rw [hq] at hs'; simp [undef] at hs'
   | some v => rw [hq] at hs'; simpa using hs'
  simp [this]
theorem SOps.q {P : Program} {N : Fr} {ops : Array Oper} {i : Nat} {rest : List Nat} {st : St} {K : St → Prop} {o : Oper} {v : AV} (ho : ops[i]? = some o) (hg : Runs ops st o) (hd : dstOk N.N o.dst = true)
  (q : QOp P o (evs st.slots) st.objs v) (k : SOps P N ops rest (st.put o.dst v) K) : SOps P N ops (i :: rest) st K := by
 intro e loc a w hr
 simp only [wpOps, ho]
 rw [if_pos (hg.wanted hr)]
 refine .inl (q e loc w a hr.heap (fun x _ => hr.eval x) _ _ ?_)
 intro u w' hb hv
 exact k e loc _ w' ((hr.below hb).put o.dst (dstOk_lt hd) hv)
def NotB (b : Bool) (v : AV) : Prop := v = .c (.bool (!b)) ∨ v = .c (.raw (.tuple #[]))
theorem notB_wanted {b : Bool} {v : AV} (hv : NotB b v) {x : Ctx} {ops : Array Oper} {a : Act} {o : Oper} {g t : Nat} (h : o.guard = some (g, b)) (ht : (ops[g]?).bind (·.dst) = some t)
  (hr : RepA x v (a.tmps.getD t undef)) : Region.wanted o (yielded ops a.tmps) = false := by
 simp only [Region.wanted, h, yielded, ht, Option.bind_some]
 rcases hv with rfl | rfl
 ·have hs' : a.tmps.getD t undef = .bool (!b) := hr
  have : a.tmps[t]? = some (.bool (!b)) := by
   rw [Array.getD_eq_getD_getElem?] at hs'
   cases hq : a.tmps[t]? with
   | none => rw [hq] at hs'; simp [undef] at hs'
   | some v => rw [hq] at hs'; simpa using hs'
  cases b <;> simp [this]
 ·have hs' : a.tmps.getD t undef = .tuple #[] := hr
  rw [Array.getD_eq_getD_getElem?] at hs'
  cases hq : a.tmps[t]? with
  | none => simp
  | some v => rw [hq] at hs'; simp at hs'; subst hs'; simp
theorem SOps.skip {P : Program} {N : Fr} {ops : Array Oper} {i : Nat} {rest : List Nat} {st : St} {K : St → Prop} {o : Oper} (ho : ops[i]? = some o) (g t : Nat) (b : Bool) (h : o.guard = some (g, b))
  (ht : (ops[g]?).bind (·.dst) = some t) (hv : NotB b (look st.slots t)) (hd : dstOk N.N o.dst = true)
  (k : SOps P N ops rest (st.put o.dst (.c (.raw (.tuple #[])))) K) : SOps P N ops (i :: rest) st K := by
 intro e loc a w hr
 simp only [wpOps, ho]
 rw [notB_wanted hv h ht (hr.slot t)]
 simp only [Bool.false_eq_true, if_false]
 exact k e loc _ w (hr.put o.dst (dstOk_lt hd) rfl)
theorem QOp.of_run {P : Program} {o : Oper} {ev : Operand → AV} {objs : List Ob} {v : AV}
  (h : ∀ (e : Env) (loc : Loc) (w : World) (a : Act), HRep e objs loc w → (∀ x ∈ o.op.operands, RepA (ctx e objs loc w) (ev x) (a.eval x)) →
   ∃ u, (execOp a.eval o).run P w = .ok (.value u) w ∧ RepA (ctx e objs loc w) v u) : QOp P o ev objs v := by
 intro e loc w a hr hx K Q hK
 obtain ⟨u, hu, hv⟩ := h e loc w a hr hx
 unfold Oper.wp
 rw [hu]
 exact hK u w (Below.refl _ _) hv
theorem q_move {P : Program} {o : Oper} {ev : Operand → AV} {objs : List Ob} {x : Operand} {v : AV} (ho : o.op = .move x) (hx : ev x = v) : QOp P o ev objs v := by
 refine QOp.of_run fun e loc w a hr h => ⟨a.eval x, by simp [execOp, ho], ?_⟩
 rw [← hx]
 exact h x (by simp [ho, Op.operands])
theorem q_assign {P : Program} {o : Oper} {ev : Operand → AV} {objs : List Ob} {x : Operand} {v : AV} (ho : o.op = .assign x) (hx : ev x = v) : QOp P o ev objs v := by
 refine QOp.of_run fun e loc w a hr h => ⟨a.eval x, by simp [execOp, ho], ?_⟩
 rw [← hx]
 exact h x (by simp [ho, Op.operands])
theorem q_binInt {P : Program} {o : Oper} {ev : Operand → AV} {objs : List Ob} {op : BinOp} {t1 t2 : TypeId} {x y : Operand} {k : IntKind} {m n : Int} {v : Cell} (ho : o.op = .binOp op t1 x y t2) (hx : ev x = .c (.int k m)) (hy : ev y = .c (.int k n))
  (hrun : ∀ w, ∃ u, (do eqGuard op t1 x y (.int k m) (.int k n); binOp op t1 (.int k m) (.int k n) : Sem Value).run P w = .ok u w ∧ ∀ c : Ctx, RepC c true v u) : QOp P o ev objs (.c v) := by
 refine QOp.of_run fun e loc w a hr h => ?_
 have h1 := h x (by simp [ho, Op.operands]); rw [hx] at h1
 have h2 := h y (by simp [ho, Op.operands]); rw [hy] at h2
 have h1' : a.eval x = .int k m := h1
 have h2' : a.eval y = .int k n := h2
 obtain ⟨u, hu, hv⟩ := hrun w
 refine ⟨u, ?_, hv _⟩
 simp only [execOp, ho, h1', h2']
 simp only [Sem.run_bind] at hu ⊢
 rw [hu]
 rfl
section
variable {P : Program} {o : Oper} {ev : Operand → AV} {objs : List Ob} {t1 t2 : TypeId} {x y : Operand} {k : IntKind} {m n : Int}
theorem q_add (ho : o.op = .binOp .add t1 x y t2) (hx : ev x = .c (.int k m)) (hy : ev y = .c (.int k n)) : QOp P o ev objs (.c (.int k (k.wrap (m + n)))) :=
 q_binInt ho hx hy fun w => ⟨.int k (k.wrap (m + n)), by simp [eqGuard, binOp, Op.intArith], fun _ => rfl⟩
theorem q_sub (ho : o.op = .binOp .sub t1 x y t2) (hx : ev x = .c (.int k m)) (hy : ev y = .c (.int k n)) : QOp P o ev objs (.c (.int k (k.wrap (m - n)))) :=
 q_binInt ho hx hy fun w => ⟨.int k (k.wrap (m - n)), by simp [eqGuard, binOp, Op.intArith], fun _ => rfl⟩
theorem q_lss (ho : o.op = .binOp .lss t1 x y t2) (hx : ev x = .c (.int k m)) (hy : ev y = .c (.int k n)) : QOp P o ev objs (.c (.bool (decide (m < n)))) :=
 q_binInt ho hx hy fun w => ⟨.bool (decide (m < n)), by simp [eqGuard, binOp, Op.intCmp], fun _ => rfl⟩
theorem q_leq (ho : o.op = .binOp .leq t1 x y t2) (hx : ev x = .c (.int k m)) (hy : ev y = .c (.int k n)) : QOp P o ev objs (.c (.bool (decide (m ≤ n)))) :=
 q_binInt ho hx hy fun w => ⟨.bool (decide (m ≤ n)), by simp [eqGuard, binOp, Op.intCmp], fun _ => rfl⟩
theorem q_gtr (ho : o.op = .binOp .gtr t1 x y t2) (hx : ev x = .c (.int k m)) (hy : ev y = .c (.int k n)) : QOp P o ev objs (.c (.bool (decide (n < m)))) :=
 q_binInt ho hx hy fun w => ⟨.bool (decide (n < m)), by simp [eqGuard, binOp, Op.intCmp], fun _ => rfl⟩
theorem q_geq (ho : o.op = .binOp .geq t1 x y t2) (hx : ev x = .c (.int k m)) (hy : ev y = .c (.int k n)) : QOp P o ev objs (.c (.bool (decide (n ≤ m)))) :=
 q_binInt ho hx hy fun w => ⟨.bool (decide (n ≤ m)), by simp [eqGuard, binOp, Op.intCmp], fun _ => rfl⟩
theorem q_eql (ho : o.op = .binOp .eql t1 x y t2) (hx : ev x = .c (.int k m)) (hy : ev y = .c (.int k n)) : QOp P o ev objs (.c (.bool (decide (m = n)))) :=
 q_binInt ho hx hy fun w => ⟨.bool (decide (m = n)), by simp [eqGuard, binOp, Op.intCmp]; rfl, fun _ => rfl⟩
theorem q_neq (ho : o.op = .binOp .neq t1 x y t2) (hx : ev x = .c (.int k m)) (hy : ev y = .c (.int k n)) : QOp P o ev objs (.c (.bool (!decide (m = n)))) :=
 q_binInt ho hx hy fun w => ⟨.bool (!decide (m = n)), by simp [eqGuard, binOp, Op.intCmp]; rfl, fun _ => rfl⟩
end
theorem q_not {P : Program} {o : Oper} {ev : Operand → AV} {objs : List Ob} {t : TypeId} {x : Operand} {b : Bool} (ho : o.op = .unOp .not t x) (hx : ev x = .c (.bool b)) : QOp P o ev objs (.c (.bool (!b))) := by
 refine QOp.of_run fun e loc w a hr h => ?_
 have h1 := h x (by simp [ho, Op.operands]); rw [hx] at h1
 have h1' : a.eval x = .bool b := h1
 exact ⟨.bool (!b), by simp [execOp, ho, h1', Op.unary], rfl⟩
theorem q_neg {P : Program} {o : Oper} {ev : Operand → AV} {objs : List Ob} {t : TypeId} {x : Operand} {k : IntKind} {n : Int} (ho : o.op = .unOp .neg t x) (hx : ev x = .c (.int k n)) : QOp P o ev objs (.c (.int k (k.wrap (0 - n)))) := by
 refine QOp.of_run fun e loc w a hr h => ?_
 have h1 := h x (by simp [ho, Op.operands]); rw [hx] at h1
 have h1' : a.eval x = .int k n := h1
 exact ⟨.int k (k.wrap (0 - n)), by simp [execOp, ho, h1', Op.unary, Op.intArith], rfl⟩
end Go.Proofs.Ytoncfkdgddfnlaa.E
