/- Function values: methods with their receivers, comparison with nil; deferred functions that find nothing to recover. -/
import Derived.Test.YthpblkclpfmbeaaEngU
import Derived.Test.YthpblkclpfmbeaaEngM
import Derived.Defers
import Derived.Recover
namespace Go.Proofs.Ythpblkclpfmbeaa.E
open Go Go.RowKit
set_option linter.unusedVariables false

section
variable {P : Program} {o : Oper} {ev : Operand → AV} {objs : List Ob} {f : Nat} {args : Array Operand} {tys : Array TypeId} {x y : Operand}

theorem fn_cells {X : Ctx} : ∀ (cs : List Cell) (vs : List Value), cs.all Cell.pers = true → RepAL X (cs.map AV.c) vs → vs.length = cs.length ∧ ∀ j, j < cs.length → ∃ y, vs[j]? = some y ∧ RepC X false (cellsG cs j) y := by
  intro cs
  induction cs with
  | nil => intro vs _ h; cases vs with
    | nil => exact ⟨rfl, fun j hj => absurd hj (Nat.not_lt_zero j)⟩
    | cons _ _ => exact h.elim
  | cons c cs ih =>
    intro vs hp h
    cases vs with
    | nil => exact h.elim
    | cons v vs =>
      simp only [List.all_cons, Bool.and_eq_true] at hp
      obtain ⟨h1, h2⟩ := ih vs hp.2 h.2
      refine ⟨by simp [h1], fun j hj => ?_⟩
      cases j with
      | zero => exact ⟨v, rfl, RepC.down h.1 hp.1⟩
      | succ j => simpa [cellsG] using h2 j (by simpa using hj)

/-- A method with its receiver. -/
theorem q_makeBound {firsts : Array Operand} {cs : List Cell} (f' : Nat) (ho : o.op = .makeFunc (.func f) firsts #[]) (hc : firsts.toList.map ev = cs.map AV.c) (hp : cs.all Cell.pers = true) (hbf : boundB f' = true := by rfl) (hff : f' - 1000000 = f := by rfl) : QOp P o ev objs (.c (.fn f' cs.length (cellsG cs))) := by
  refine QOp.of_run fun e loc w a hr hh => ?_
  have hws := RepAL.of_ops (x := ctx e objs loc w) (ev := ev) (a := a) firsts.toList (fun x hx => hh x (by simp [ho, Op.operands]; simpa using hx))
  rw [hc] at hws
  refine ⟨.func (.func f) (firsts.map a.eval) #[], by simp [execOp, ho, Instr.makeFunc], ?_⟩
  obtain ⟨h1, h2⟩ := fn_cells cs _ hp hws
  refine ⟨firsts.map a.eval, ?_, by simpa using h1, fun j hj => ?_⟩
  · simp only [fnVal, hbf, hff]
  obtain ⟨y, hy, hrep⟩ := h2 j hj
  refine ⟨y, ?_, hrep⟩
  rw [← Array.getElem?_toList]
  simpa using hy

/-- A call of such a method: the receiver comes first. -/
theorem q_callb {avs : List AV} {res : AV} {cs : List Cell} {f' : Nat} (hf : SFun P f [] avs (fun r _ => r = res)) (ids : List Nat) (ho : o.op = .call { callee := .value x, args := args, argTypes := tys }) (hx : ev x = .c (.fn f' cs.length (cellsG cs))) (hfn : fnB P f = true)
    (ha : LentL objs ids (cs.map AV.c ++ args.toList.map ev) avs) (hres : (ids.isEmpty && res.pers) = true ∨ res.flat = true) (hbf : boundB f' = true := by rfl) (hff : f' - 1000000 = f := by rfl) : QOp P o ev objs res := by
  intro e loc w a hr hh K Q hK
  have hws := RepAL.of_ops (ev := ev) (a := a) args.toList (fun y hy => hh y (by simp [ho, Op.operands, Call.operands]; right; simpa using hy))
  have h1 := hh x (by simp [ho, Op.operands, Call.operands])
  rw [hx] at h1
  obtain ⟨vals, hv, hs, hg⟩ := h1
  have hv : a.eval x = .func (.func f) vals #[] := by rw [hv]; simp only [fnVal, hbf, hff]
  have hws2 := (fn_vals cs vals.toList (by simpa using hs) (fun j hj => by obtain ⟨y, hy, hr⟩ := hg j hj; exact ⟨y, by simpa using hy, hr⟩)).append hws
  have hcall := call_vals hf ids hr hws2 ha hres
  have hexec : (execOp a.eval o).run P w = .ok (.enter f (vals.toList ++ args.toList.map a.eval).toArray) w := by
    have h1 : vals ++ args.map a.eval = (vals.toList ++ args.toList.map a.eval).toArray := by apply Array.ext'; simp
    simp only [execOp, ho, resolve, hv, Deferred.ofValue, Sem.run_bind, Sem.run_pure, Result.andThen_ok, invoke]
    simp [run_callFunc hfn, h1]
  unfold Oper.wp
  rw [hexec, Oper.upon_enter]
  refine hcall.mono ?_
  rintro en w' ⟨v, rfl, hb, hrep⟩
  exact hK v w' hb hrep

/-! ### nil -/
def funcB (P : Program) (t : TypeId) : Bool :=
  match P.underlying t with
  | some (.func _ _ _) => true
  | _ => false
def Cell.nilB : Cell → Option Bool
  | .fn .. => some false
  | .raw (.func ..) => some false
  | .raw .nilFunc => some true
  | _ => none
theorem run_equalF {t : TypeId} (ht : funcB P t = true) {u : Value} {b : Bool} (hu : (b = false ∧ ∃ g p q, u = .func g p q) ∨ (b = true ∧ u = .nilFunc)) (w : World) : (Op.equal t u .nilFunc).run P w = .ok b w := by
  unfold funcB at ht
  split at ht
  · rename_i p q r hun
    have key : ∀ d, (Op.equalIn (d + 1) t u .nilFunc).run P w = .ok b w := fun d => by
      rcases hu with ⟨rfl, g, p', q', rfl⟩ | ⟨rfl, rfl⟩ <;> simp [Op.equalIn, run_underlying hun]
    exact key 9999
  · cases ht
theorem nilB_out {X : Ctx} {c : Cell} {v : Value} {b : Bool} (hc : c.nilB = some b) (h : RepC X true c v) : (b = false ∧ ∃ g p q, v = .func g p q) ∨ (b = true ∧ v = .nilFunc) := by
  cases c with
  | fn f n get =>
    cases hc
    obtain ⟨vals, rfl, _⟩ := h
    exact .inl ⟨rfl, fnVal_fn f vals⟩
  | raw u =>
    have h' : v = u := h
    subst h'
    cases v <;> cases hc
    · exact .inl ⟨rfl, _, _, _, rfl⟩
    · exact .inr ⟨rfl, rfl⟩
  | _ => cases hc
theorem q_eqlF {c : Cell} {b : Bool} {t t2 : TypeId} (ho : o.op = .binOp .eql t x y t2) (hx : ev x = .c c) (hc : c.nilB = some b) (hy : ev y = .c (.raw .nilFunc)) (ht : funcB P t = true) : QOp P o ev objs (.c (.bool b)) := by
  refine QOp.of_run fun e loc w a hr h => ?_
  have h1 := h x (by simp [ho, Op.operands]); rw [hx] at h1
  have h2 := h y (by simp [ho, Op.operands]); rw [hy] at h2
  have h2' : a.eval y = .nilFunc := h2
  have hn := nilB_out hc h1
  obtain ⟨u, hu⟩ : ∃ u, u = a.eval x := ⟨_, rfl⟩
  rw [← hu] at hn
  have hb : (binOp .eql t u .nilFunc).run P w = .ok (.bool b) w := by
    have e1 : binOp .eql t u .nilFunc = (do pure (Value.bool (← Op.equal t u .nilFunc)) : Sem Value) := by
      rcases hn with ⟨_, g, p, q, rfl⟩ | ⟨_, rfl⟩ <;> rfl
    rw [e1]
    simp only [Sem.run_bind, run_equalF ht hn, Result.andThen_ok, Sem.run_pure]
  have hg : (eqGuard .eql t x y u .nilFunc).run P w = .ok () w := by
    rcases hn with ⟨_, g, p, q, rfl⟩ | ⟨_, rfl⟩ <;> rfl
  refine ⟨.bool b, ?_, rfl⟩
  simp only [execOp, ho, h2', ← hu, Sem.run_bind, hg, hb, Result.andThen_ok, Sem.run_pure]
end

/-! ### Deferred functions that find nothing to recover -/
def Hush (P : Program) (g : FuncId) : Prop := ∀ (args : Array Value) (w : World), CallsD P g args .returning w fun en u' w' => (∃ v, en = .returned v) ∧ u' = .returning ∧ w' = w

def ifaceB (P : Program) (t : TypeId) : Bool :=
  match P.underlying t with
  | some (.interface _) => true
  | _ => false
theorem Hush.of {P : Program} {g : FuncId} {fn : Func} {id : Nat} {o1 o2 : Oper} {x : Code} {t1 t2 : Nat} {ty ty2 : TypeId} (hf : P.funcs[g]? = some fn) (hb : fn.body = some (.seq (.region id #[o1, o2] false) (.cond (.tmp t2) x .skip)))
    (h1 : o1.op = .call { callee := .builtin .recover, args := #[], argTypes := #[] }) (hd1 : o1.dst = some t1) (hg1 : o1.guard = none)
    (h2 : o2.op = .binOp .neq ty (.tmp t1) (.const .nilIface) ty2) (hd2 : o2.dst = some t2) (hg2 : o2.guard = none) (hr : fn.results = #[]) (ht1 : Nat.blt t1 fn.ntmps = true) (ht2 : Nat.blt t2 fn.ntmps = true) (hu : ifaceB P ty = true) : Hush P g := by
  intro args w
  have ht1 : t1 < fn.ntmps := by simpa [Nat.blt_eq] using ht1
  have ht2 : t2 < fn.ntmps := by simpa [Nat.blt_eq] using ht2
  obtain ⟨ms, hms⟩ : ∃ ms, P.underlying ty = some (.interface ms) := by
    unfold ifaceB at hu
    split at hu
    · exact ⟨_, by assumption⟩
    · cases hu
  refine callsD_of_wpS hf hb ?_
  intro c0 cs hm
  obtain ⟨A, hA⟩ : ∃ A : Act, A = { tmps := args ++ Array.replicate (fn.ntmps - args.size) undef, defers := [] } := ⟨_, rfl⟩
  have hAs : fn.ntmps ≤ A.tmps.size := by rw [hA]; simp; omega
  have hAd : A.defers = [] := by rw [hA]
  rw [← hA]
  refine wpS_seq (wpS_region ?_)
  have hrec : recoverD (c0 :: cs) = none := by simp [recoverD, hm]
  have e1 : (execOp A.eval o1).run P w = .ok .recover w := by
    simp [execOp, h1, resolve, invoke, builtin]
  have hev : (A.put (some t1) .nilIface).eval (.tmp t1) = .nilIface := by
    have : t1 < A.tmps.size := by omega
    simp [Act.eval, Act.put, Array.getD, this]
  have hb2 : (binOp .neq ty .nilIface .nilIface).run P w = .ok (.bool false) w := by
    have key : ∀ d, (Op.equalIn (d + 1) ty .nilIface .nilIface).run P w = .ok true w := fun d => by simp [Op.equalIn, run_underlying hms]
    have h3 : (Op.equal ty .nilIface .nilIface).run P w = .ok true w := key 9999
    show (do pure (Value.bool (!(← Op.equal ty .nilIface .nilIface))) : Sem Value).run P w = _
    simp only [Sem.run_bind, h3, Result.andThen_ok, Sem.run_pure]; rfl
  have e2 : (execOp (A.put (some t1) .nilIface).eval o2).run P w = .ok (.value (.bool false)) w := by
    have hg : (eqGuard .neq ty (.tmp t1) (.const .nilIface) .nilIface .nilIface).run P w = .ok () w := rfl
    have hc : (A.put (some t1) .nilIface).eval (.const .nilIface) = .nilIface := rfl
    simp only [execOp, h2, hev, hc, Sem.run_bind, hg, hb2, Result.andThen_ok, Sem.run_pure]
  show wpOpsS P #[o1, o2] _ [0, 1] A (c0 :: cs) w
  have w1 : ∀ a : Act, Region.wanted o1 (yielded #[o1, o2] a.tmps) = true := fun a => wanted_none hg1
  have w2 : ∀ a : Act, Region.wanted o2 (yielded #[o1, o2] a.tmps) = true := fun a => wanted_none hg2
  have g0 : (#[o1, o2] : Array Oper)[0]? = some o1 := rfl
  have g1 : (#[o1, o2] : Array Oper)[1]? = some o2 := rfl
  simp only [wpOpsS, g0, g1, w1, w2, if_true, e1, hrec, hd1, e2, hd2, Oper.upon_value]
  show Code.wpS P _ _ _ _ _
  refine wpS_cond (t := false) ?_ ?_
  · have : t2 < (A.put (some t1) .nilIface).tmps.size := by simp [Act.put]; omega
    simp [Act.eval, Act.put, Array.getD] at this ⊢
    omega
  · refine wpS_of_wp (wp_skip ?_)
    refine ⟨by simp [Act.put, hAd], .returning, ?_, .tuple #[], ?_, ⟨_, rfl⟩, rfl, rfl⟩
    · cases c0; simp at hm; subst hm; rfl
    · rw [results_eq, hr]; simp [Array.mapM_eq_mapM_toList]

/-- The rest of a function behind its one defer. -/
def dq (P : Program) (N : Fr) (fn : Func) (post : AV → List Ob → Prop) (rest : Code) (t : Nat) : Exit → St → Prop
  | .normal, st => look st.slots t = .c .any ∧ SCode P N rest st (retQ P N fn post)
  | _, _ => False

theorem SFun.ofD {P : Program} {f g : FuncId} {fn : Func} {r1 rest : Code} {id : Nat} {o1 o2 : Oper} {caps : Array Operand} {t : Nat} {objs : List Ob} {args : List AV} {post : AV → List Ob → Prop} {n : Nat} (hf : P.funcs[f]? = some fn) (hq : Hush P g) (hgb : fnB P g = true)
    (hb : fn.body = some (.seq r1 (.seq (.region id #[o1, o2] false) rest))) (h1 : o1.op = .makeFunc (.func g) #[] caps) (hd1 : o1.dst = some t) (hg1 : o1.guard = none) (h2 : o2.op = .defer { callee := .value (.tmp t), args := #[], argTypes := #[] }) (hd2 : o2.dst = none) (hg2 : o2.guard = none)
    (hN : fn.ntmps = n) (hle : Nat.ble args.length n = true) (ht : Nat.blt t n = true)
    (h : SCode P ⟨n, objs.length⟩ r1 ⟨argSlots 0 args, objs⟩ (dq P ⟨n, objs.length⟩ fn post rest t)) : SFun P f objs args post := by
  intro e loc w vals hw hM hl hr hA
  have hle := Nat.le_of_ble_eq_true hle
  have ht : t < n := by simpa [Nat.blt_eq] using ht
  have hlen := hA.length
  refine calls_of_wp_defers hf hb ?_
  have hS : SRep (e.d []) ⟨n, objs.length⟩ ⟨argSlots 0 args, objs⟩ loc { tmps := vals.toArray ++ Array.replicate (fn.ntmps - vals.toArray.size) undef, defers := [] } w := by
    refine ⟨hr.d _, by simp [hN]; omega, fun i _ => (hl i).symm, Nat.le_refl _, rfl, fun t => ?_⟩
    have := look_args (x := ctx (e.d []) objs loc w) args vals 0 t hA (Nat.zero_le _)
    have e1 : (vals.toArray ++ Array.replicate (fn.ntmps - vals.toArray.size) undef).getD t undef = vals.getD (t - 0) undef := by
      rw [Array.getD_eq_getD_getElem?, List.getD_eq_getElem?_getD, Nat.sub_zero]
      rw [Array.getElem?_append]
      by_cases ht : t < vals.length
      · simp [ht]
      · simp only [List.size_toArray, ht, if_false]
        rw [List.getElem?_eq_none (by omega), Array.getElem?_replicate]
        split <;> rfl
    rw [e1]
    exact this
  refine wp_seq (wp_mono (h (e.d []) loc _ w hS) ?_)
  rintro ex a1 w1 ⟨st1, loc1, hd, hr1⟩
  cases ex with
  | normal =>
    obtain ⟨hlk, hrest⟩ := hd
    show Code.wp P _ _ a1 w1
    refine wp_seq (wp_region ?_)
    show wpOps P #[o1, o2] _ [0, 1] a1 w1
    obtain ⟨cv, hcv⟩ : ∃ cv : Array Value, cv = caps.map a1.eval := ⟨_, rfl⟩
    have x1 : (execOp a1.eval o1).run P w1 = .ok (.value (.func (.func g) #[] cv)) w1 := by simp [execOp, h1, Instr.makeFunc, hcv]
    have hsz : t < a1.tmps.size := by have := hr1.size; simp only at this; omega
    have hev : (a1.put (some t) (.func (.func g) #[] cv)).eval (.tmp t) = .func (.func g) #[] cv := by simp [Act.eval, Act.put, Array.getD, hsz]
    have x2 : (execOp (a1.put (some t) (.func (.func g) #[] cv)).eval o2).run P w1 = .ok (.defer { target := .fn (.func g) cv, args := #[] }) w1 := by
      simp [execOp, h2, resolve, hev, Deferred.ofValue]
    have k1 : ∀ a : Act, Region.wanted o1 (yielded #[o1, o2] a.tmps) = true := fun a => wanted_none hg1
    have k2 : ∀ a : Act, Region.wanted o2 (yielded #[o1, o2] a.tmps) = true := fun a => wanted_none hg2
    have g0 : (#[o1, o2] : Array Oper)[0]? = some o1 := rfl
    have g1 : (#[o1, o2] : Array Oper)[1]? = some o2 := rfl
    simp only [wpOps, g0, g1, k1, k2, if_true]
    refine .inl ?_
    unfold Oper.wp
    rw [x1, Oper.upon_value, hd1]
    refine .inl ?_
    rw [x2, Oper.upon_defer, hd2]
    show Code.wp P _ _ _ w1
    have hr2 : SRep (e.d [{ target := .fn (.func g) cv, args := #[] }]) ⟨n, objs.length⟩ st1 loc1 (Act.put { a1.put (some t) (.func (.func g) #[] cv) with defers := { target := .fn (.func g) cv, args := #[] } :: (a1.put (some t) (.func (.func g) #[] cv)).defers } none undef) w1 := by
      have hdf : a1.defers = [] := hr1.defers
      refine ⟨hr1.heap.d'.d _, by have := hr1.size; simpa [Act.put] using this, hr1.base, hr1.n0le, by simp [Act.put, hdf, Env.d], fun q => ?_⟩
      by_cases hq : q = t
      · subst hq; rw [hlk]; trivial
      · have hs := hr1.slot q
        have : (a1.tmps.setIfInBounds t (.func (.func g) #[] cv)).getD q undef = a1.tmps.getD q undef := by
          simp [Array.getD_eq_getD_getElem?, Array.getElem?_setIfInBounds_ne (Ne.symm hq)]
        simp only [Act.put]
        rw [this]; exact hs
    refine wp_mono (hrest _ loc1 _ w1 hr2) ?_
    rintro ex a' w' ⟨st', loc', hq', hr'⟩
    have fin : RetOk P ⟨n, objs.length⟩ fn post st' → Leaves P fn a'.tmps (fun en w' => ∃ v r objs' loc', en = .returned v ∧ post r objs' ∧ HRep e objs' loc' w' ∧ RepA (ctx e objs' loc' w') r v ∧ objs.length ≤ objs'.length ∧ ∀ i, i < objs.length → loc' i = loc i) a'.defers .returning w' := by
      rintro ⟨st2, r, hsub, hres, hpost⟩
      obtain ⟨loc2, hr3⟩ := hsub _ loc' a' w' hr'
      obtain ⟨v, hv, hrep⟩ := hres _ loc2 a' w' hr3
      have hdf : a'.defers = [{ target := .fn (.func g) cv, args := #[] }] := hr'.defers
      rw [hdf]
      have hinv : (invoke (.fn (.func g) cv) #[]).run P w' = .ok (.enter g cv) w' := by
        simp only [invoke, Array.empty_append]; exact run_callFunc hgb cv w'
      refine ⟨by simp, .func g, cv, g, cv, rfl, hinv, ?_⟩
      intro c cs hc
      obtain ⟨en, u', w2, fr, ⟨⟨v2, rfl⟩, rfl, rfl⟩, hcomes⟩ := hq cv w' c cs hc
      exact ⟨.returned v2, .returning, w2, fr, ⟨v, hv, v, r, st2.objs, loc2, rfl, hpost, hr3.heap.d', hrep, hr3.n0le, fun i hi => (hr3.base i hi).trans (hl i)⟩, hcomes⟩
    cases ex with
    | normal => exact fin hq'
    | ret => exact fin hq'
    | exit id => exact hq'.elim
    | goto l => exact hq'.elim
    | panic c => exact hq'.elim
    | outgrown => exact hq'.elim
  | ret => exact hd.elim
  | exit id => exact hd.elim
  | goto l => exact hd.elim
  | panic c => exact hd.elim
  | outgrown => exact hd.elim

/-! ### slices.AppendSeq(nil, slices.Values(s)) -/
theorem sfun_appendSeq {P : Program} {f g : FuncId} {T : TypeId}
    (hs : ∀ (Bs q : Nat) (a : Option Addr) (cap : Nat) (zs : List Int) (_ : zs.length * 8 ≤ 140737488351232) (w : World) (_ : Bs < w.heap.size)
      (_ : w.cell? ⟨Bs, q, none⟩ = some (.slice a zs.length cap)) (_ : 0 < zs.length → ∃ b off, a = some ⟨b, off, none⟩ ∧ ∀ j, j < zs.length → w.cell? ⟨b, off + j, none⟩ = some (.int .i64 (zs[j]?.getD 0))),
      Calls P f #[.slice none 0 0, .func (.func g) #[] #[.pointer (some ⟨Bs, q, none⟩)]] w fun e w' => ∃ v : Value, e = .returned v ∧ w'.ownsRow w.heap.size T 1 v zs.length (zs.map fun x => Value.int .i64 x) ∧ Below w.heap.size w w')
    (l : List Int) (hz : l.length * 8 ≤ 140737488351232) (get : Nat → Cell) (hget : get 0 = .vec l.length 1 (gL (cInt .i64) 0 l)) (hbg : boundB g = false := by rfl) :
    SFun P f [] [.c (.raw (.slice none 0 0)), .c (.fn g 1 (cellsG [.eptr 1 get 0]))] (fun x os => x = .c (.own 0 l.length) ∧ os = [.arr T 1 l.length (gL (cInt .i64) 0 l)]) := by
  intro e loc w vals hw hM hl hr hA
  obtain ⟨v0, v1, rfl⟩ : ∃ v0 v1, vals = [v0, v1] := by
    match vals, hA with
    | [v0, v1], _ => exact ⟨v0, v1, rfl⟩
    | [], h => exact h.elim
    | [_], h => exact h.2.elim
    | _ :: _ :: _ :: _, h => exact h.2.2.elim
  have h0 : v0 = .slice none 0 0 := hA.1
  subst h0
  obtain ⟨cv, hv1, hcs, hcg⟩ := hA.2.1
  simp only [fnVal, hbg] at hv1
  obtain ⟨y, hy, hrep⟩ := hcg 0 (by decide)
  obtain ⟨_, Bs, q, rfl, hO, hcell⟩ := hrep
  obtain ⟨z, hzc, hzr⟩ := hcell 0 (by decide)
  rw [hget] at hzr
  obtain ⟨a, cap, rfl, _, hvec⟩ := hzr
  have hcv : cv = #[.pointer (some ⟨Bs, q, none⟩)] := by
    apply Array.ext'
    have hl1 : cv.toList.length = 1 := by simpa using hcs
    have : cv.toList[0]? = some (.pointer (some ⟨Bs, q + 0, none⟩)) := by rw [Array.getElem?_toList]; exact hy
    match hq : cv.toList, hl1 with
    | [u], _ => rw [hq] at this; simpa using this
  subst hcv
  subst hv1
  have hBs : Bs < w.heap.size := World.block_lt_of_cell? w ⟨Bs, q + 0, none⟩ hzc
  refine (hs Bs q a cap l hz w hBs hzc (fun h => by
    obtain ⟨b, off, rfl, hO2, hc2⟩ := hvec h (by decide)
    refine ⟨b, off, rfl, fun j hj => ?_⟩
    obtain ⟨u, hu, hur⟩ := hc2 j hj 0 (by decide)
    have hu' : u = .int .i64 (l.getD j 0) := hur
    rw [Nat.mul_one, Nat.add_zero] at hu
    rw [← List.getD_eq_getElem?_getD, ← hu']; exact hu)).mono ?_
  rintro en w' ⟨v, rfl, hrow, hb⟩
  rcases hrow.2 with ⟨rfl, hk⟩ | ⟨gb, c, cur, rfl, hbase, hgb, r1, r2, r3, r4⟩
  · have hstep := hr.birth hb (.arr T 1 l.length (gL (cInt .i64) 0 l)) none (fun b c h => by cases h) (fun _ => hk)
    refine ⟨_, _, _, _, rfl, ⟨rfl, rfl⟩, hstep.rep, ⟨rfl, by show 0 < 1; decide, ?_⟩, by simp, fun i hi => absurd hi (by simp)⟩
    have h9 : (ctx e [Ob.arr T 1 l.length (gL (cInt .i64) 0 l)] (locAdd loc ([] : List Ob).length none) w').loc 0 = none := by simp [ctx, locAdd]
    rw [h9]
    exact ⟨rfl, hk⟩
  · have hstep := hr.birth hb (.arr T 1 l.length (gL (cInt .i64) 0 l)) (some (gb, c)) (fun b c h => by cases h; exact ⟨hbase, (Array.getElem?_eq_some_iff.1 hgb).1⟩) (fun _ => by
      refine ⟨cur, hgb, r3, r1, r2, fun i hi j hj => ?_⟩
      obtain rfl : j = 0 := by omega
      refine ⟨.int .i64 (l.getD i 0), ?_, rfl⟩
      have h2 := congrArg (·[i]?) r4
      simp only [Nat.mul_one, List.getElem?_take_of_lt hi, List.getElem?_map] at h2
      rw [Nat.mul_one, Nat.add_zero, ← Array.getElem?_toList, h2, List.getElem?_eq_getElem hi, List.getD_eq_getElem?_getD, List.getElem?_eq_getElem hi]; rfl)
    refine ⟨_, _, _, _, rfl, ⟨rfl, rfl⟩, hstep.rep, ⟨rfl, by show 0 < 1; decide, ?_⟩, by simp, fun i hi => absurd hi (by simp)⟩
    have h9 : (ctx e [Ob.arr T 1 l.length (gL (cInt .i64) 0 l)] (locAdd loc ([] : List Ob).length (some (gb, c))) w').loc 0 = some (gb, c) := by simp [ctx, locAdd]
    rw [h9]
/-! Short names. -/
def vI (l : List Int) : Cell := .vec l.length 1 (gL (cInt .i64) 0 l)
def aI (T : Nat) (l : List Int) : Ob := .arr T 1 l.length (gL (cInt .i64) 0 l)
def aB (T : Nat) (l : List Bool) : Ob := .arr T 1 l.length (gL cBool false l)
end Go.Proofs.Ythpblkclpfmbeaa.E
