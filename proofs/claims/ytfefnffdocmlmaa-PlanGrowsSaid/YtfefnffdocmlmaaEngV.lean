/- Function values: methods with their receivers, comparison with nil; deferred functions that find nothing to recover. -/
import Derived.Test.YtfefnffdocmlmaaEngU
import Derived.Test.YtfefnffdocmlmaaEngM
import Derived.Defers
import Derived.Recover
namespace Go.Proofs.Ytfefnffdocmlmaa.E
open Go Go.RowKit
set_option linter.unusedVariables false
section
variable {P : Program} {o : Oper} {ev : Operand → AV} {objs : List Ob} {f : Nat} {args : Array Operand} {tys : Array TypeId} {x y : Operand}
def funcB (P : Program) (t : TypeId) : Bool :=
 match P.underlying t with
 | some (.func _ _ _) => true
 | _ => false
def Cell.nilB : Cell → Option Bool
 | .fn .. => some false
 | .raw (.func ..) => some false
 | .raw .nilFunc => some true
 | .fnp .. => some false
 | _ => none
theorem run_equalF {t : TypeId} (ht : funcB P t = true) {u : Value} {b : Bool} (hu : (b = false ∧ ∃ g p q, u = .func g p q) ∨ (b = true ∧ u = .nilFunc)) (w : World) : (Op.equal t u .nilFunc).run P w = .ok b w := by
 unfold funcB at ht
 split at ht
 ·rename_i p q r hun
  have key : ∀ d, (Op.equalIn (d + 1) t u .nilFunc).run P w = .ok b w := fun d => by
   rcases hu with ⟨rfl, g, p', q', rfl⟩ | ⟨rfl, rfl⟩ <;> simp [Op.equalIn, run_underlying hun]
  exact key 9999
 ·cases ht
theorem nilB_out {X : Ctx} {c : Cell} {v : Value} {b : Bool} (hc : c.nilB = some b) (h : RepC X true c v) : (b = false ∧ ∃ g p q, v = .func g p q) ∨ (b = true ∧ v = .nilFunc) := by
 cases c with
 | fn f n get =>
  cases hc
  obtain ⟨vals, rfl, _⟩ := h
  exact .inl ⟨rfl, fnVal_fn f vals⟩
 | fnp f id =>
  cases hc
  obtain ⟨_, _, b, c, _, rfl⟩ := h
  exact .inl ⟨rfl, _, _, _, rfl⟩
 | raw u =>
  have h' : v = u := h
  subst h'
  cases v <;> cases hc
  ·exact .inl ⟨rfl, _, _, _, rfl⟩
  ·exact .inr ⟨rfl, rfl⟩
 | _ => cases hc
theorem q_eqlF {c : Cell} {b : Bool} {t t2 : TypeId} (ho : o.op = .binOp .eql t x y t2) (hx : ev x = .c c) (hc : c.nilB = some b) (hy : ev y = .c (.raw .nilFunc)) (ht : funcB P t = true) : QOp P o ev objs (.c (.bool b)) := by
 refine QOp.of_run fun e loc w a hr h => ?_
 have h1 := h x (by simp [ho, Op.operands]); rw [hx] at h1
 have h2 := h y (by simp [ho, Op.operands]); rw [hy] at h2
 have h2' : a.eval y = .nilFunc := h2
 have hn := nilB_out hc h1
 obtain ⟨u, hu⟩ : ∃ u, u = a.eval x := ⟨_, rfl⟩
 rw [← hu] at hn
 have hb : (binOp .eql t u .nilFunc).run P w = .ok (.bool b) w := by
  have e1 : binOp .eql t u .nilFunc = (do pure (Value.bool (← Op.equal t u .nilFunc)) : Sem Value) := by
   rcases hn with ⟨_, g, p, q, rfl⟩ | ⟨_, rfl⟩ <;> rfl
  rw [e1]
  simp only [Sem.run_bind, run_equalF ht hn, Result.andThen_ok, Sem.run_pure]
 have hg : (eqGuard .eql t x y u .nilFunc).run P w = .ok () w := by
  rcases hn with ⟨_, g, p, q, rfl⟩ | ⟨_, rfl⟩ <;> rfl
 refine ⟨.bool b, ?_, rfl⟩
 simp only [execOp, ho, h2', ← hu, Sem.run_bind, hg, hb, Result.andThen_ok, Sem.run_pure]
end
def Hush (P : Program) (g : FuncId) : Prop := ∀ (args : Array Value) (w : World), CallsD P g args .returning w fun en u' w' => (∃ v, en = .returned v) ∧ u' = .returning ∧ w' = w
def ifaceB (P : Program) (t : TypeId) : Bool :=
 match P.underlying t with
 | some (.interface _) => true
 | _ => false
theorem Hush.of {P : Program} {g : FuncId} {fn : Func} {id : Nat} {o1 o2 : Oper} {x : Code} {t1 t2 : Nat} {ty ty2 : TypeId} (hf : P.funcs[g]? = some fn) (hb : fn.body = some (.seq (.region id #[o1, o2] false) (.cond (.tmp t2) x .skip)))
  (h1 : o1.op = .call { callee := .builtin .recover, args := #[], argTypes := #[] }) (hd1 : o1.dst = some t1) (hg1 : o1.guard = none)
  (h2 : o2.op = .binOp .neq ty (.tmp t1) (.const .nilIface) ty2) (hd2 : o2.dst = some t2) (hg2 : o2.guard = none) (hr : fn.results = #[]) (ht1 : Nat.blt t1 fn.ntmps = true) (ht2 : Nat.blt t2 fn.ntmps = true) (hu : ifaceB P ty = true) : Hush P g := by
 intro args w
 have ht1 : t1 < fn.ntmps := by simpa [Nat.blt_eq] using ht1
 have ht2 : t2 < fn.ntmps := by simpa [Nat.blt_eq] using ht2
 obtain ⟨ms, hms⟩ : ∃ ms, P.underlying ty = some (.interface ms) := by
  unfold ifaceB at hu
  split at hu
  ·exact ⟨_, by assumption⟩
  ·cases hu
 refine callsD_of_wpS hf hb ?_
 intro c0 cs hm
 obtain ⟨A, hA⟩ : ∃ A : Act, A = { tmps := args ++ Array.replicate (fn.ntmps - args.size) undef, defers := [] } := ⟨_, rfl⟩
 have hAs : fn.ntmps ≤ A.tmps.size := by rw [hA]; simp; omega
 have hAd : A.defers = [] := by rw [hA]
 rw [← hA]
 refine wpS_seq (wpS_region ?_)
 have hrec : recoverD (c0 :: cs) = none := by simp [recoverD, hm]
 have e1 : (execOp A.eval o1).run P w = .ok .recover w := by
  simp [execOp, h1, resolve, invoke, builtin]
 have hev : (A.put (some t1) .nilIface).eval (.tmp t1) = .nilIface := by
  have : t1 < A.tmps.size := by omega
  simp [Act.eval, Act.put, Array.getD, this]
 have hb2 : (binOp .neq ty .nilIface .nilIface).run P w = .ok (.bool false) w := by
  have key : ∀ d, (Op.equalIn (d + 1) ty .nilIface .nilIface).run P w = .ok true w := fun d => by simp [Op.equalIn, run_underlying hms]
  have h3 : (Op.equal ty .nilIface .nilIface).run P w = .ok true w := key 9999
  show (do pure (Value.bool (!(← Op.equal ty .nilIface .nilIface))) : Sem Value).run P w = _
  simp only [Sem.run_bind, h3, Result.andThen_ok, Sem.run_pure]; rfl
 have e2 : (execOp (A.put (some t1) .nilIface).eval o2).run P w = .ok (.value (.bool false)) w := by
  have hg : (eqGuard .neq ty (.tmp t1) (.const .nilIface) .nilIface .nilIface).run P w = .ok () w := rfl
  have hc : (A.put (some t1) .nilIface).eval (.const .nilIface) = .nilIface := rfl
  simp only [execOp, h2, hev, hc, Sem.run_bind, hg, hb2, Result.andThen_ok, Sem.run_pure]
 show wpOpsS P #[o1, o2] _ [0, 1] A (c0 :: cs) w
 have w1 : ∀ a : Act, Region.wanted o1 (yielded #[o1, o2] a.tmps) = true := fun a => wanted_none hg1
 have w2 : ∀ a : Act, Region.wanted o2 (yielded #[o1, o2] a.tmps) = true := fun a => wanted_none hg2
 have g0 : (#[o1, o2] : Array Oper)[0]? = some o1 := rfl
 have g1 : (#[o1, o2] : Array Oper)[1]? = some o2 := rfl
 simp only [wpOpsS, g0, g1, w1, w2, if_true, e1, hrec, hd1, e2, hd2, Oper.upon_value]
 show Code.wpS P _ _ _ _ _
 refine wpS_cond (t := false) ?_ ?_
 ·have : t2 < (A.put (some t1) .nilIface).tmps.size := by simp [Act.put]; omega
  simp [Act.eval, Act.put, Array.getD] at this ⊢
  omega
 ·refine wpS_of_wp (wp_skip ?_)
  refine ⟨by simp [Act.put, hAd], .returning, ?_, .tuple #[], ?_, ⟨_, rfl⟩, rfl, rfl⟩
  ·cases c0; simp at hm; subst hm; rfl
  ·rw [results_eq, hr]; simp [Array.mapM_eq_mapM_toList]
def dq (P : Program) (N : Fr) (fn : Func) (post : AV → List Ob → Prop) (rest : Code) (t : Nat) : Exit → St → Prop
 | .normal, st => look st.slots t = .c .any ∧ SCode P N rest st (retQ P N fn post)
 | _, _ => False
theorem SFun.ofD {P : Program} {f g : FuncId} {fn : Func} {r1 rest : Code} {id : Nat} {o1 o2 : Oper} {caps : Array Operand} {t : Nat} {objs : List Ob} {args : List AV} {post : AV → List Ob → Prop} {n : Nat} (hf : P.funcs[f]? = some fn) (hq : Hush P g) (hgb : fnB P g = true)
  (hb : fn.body = some (.seq r1 (.seq (.region id #[o1, o2] false) rest))) (h1 : o1.op = .makeFunc (.func g) #[] caps) (hd1 : o1.dst = some t) (hg1 : o1.guard = none) (h2 : o2.op = .defer { callee := .value (.tmp t), args := #[], argTypes := #[] }) (hd2 : o2.dst = none) (hg2 : o2.guard = none)
  (hN : fn.ntmps = n) (hle : Nat.ble args.length n = true) (ht : Nat.blt t n = true)
  (h : SCode P ⟨n, objs.length⟩ r1 ⟨argSlots 0 args, objs⟩ (dq P ⟨n, objs.length⟩ fn post rest t)) : SFun P f objs args post := by
 intro e loc w vals hw hM hl hr hA
 have hle := Nat.le_of_ble_eq_true hle
 have ht : t < n := by simpa [Nat.blt_eq] using ht
 have hlen := hA.length
 refine calls_of_wp_defers hf hb ?_
 have hS : SRep (e.d []) ⟨n, objs.length⟩ ⟨argSlots 0 args, objs⟩ loc { tmps := vals.toArray ++ Array.replicate (fn.ntmps - vals.toArray.size) undef, defers := [] } w := by
  refine ⟨hr.d _, by simp [hN]; omega, fun i _ => (hl i).symm, Nat.le_refl _, rfl, fun t => ?_⟩
  have := look_args (x := ctx (e.d []) objs loc w) args vals 0 t hA (Nat.zero_le _)
  have e1 : (vals.toArray ++ Array.replicate (fn.ntmps - vals.toArray.size) undef).getD t undef = vals.getD (t - 0) undef := by
   rw [Array.getD_eq_getD_getElem?, List.getD_eq_getElem?_getD, Nat.sub_zero]
   rw [Array.getElem?_append]
   by_cases ht : t < vals.length
   ·simp [ht]
   ·simp only [List.size_toArray, ht, if_false]
    rw [List.getElem?_eq_none (by omega), Array.getElem?_replicate]
    split <;> rfl
  rw [e1]
  exact this
 refine wp_seq (wp_mono (h (e.d []) loc _ w hS) ?_)
 rintro ex a1 w1 ⟨st1, loc1, hd, hr1⟩
 cases ex with
 | normal =>
  obtain ⟨hlk, hrest⟩ := hd
  show Code.wp P _ _ a1 w1
  refine wp_seq (wp_region ?_)
  show wpOps P #[o1, o2] _ [0, 1] a1 w1
  obtain ⟨cv, hcv⟩ : ∃ cv : Array Value, cv = caps.map a1.eval := ⟨_, rfl⟩
  have x1 : (execOp a1.eval o1).run P w1 = .ok (.value (.func (.func g) #[] cv)) w1 := by simp [execOp, h1, Instr.makeFunc, hcv]
  have hsz : t < a1.tmps.size := by have := hr1.size; simp only at this; omega
  have hev : (a1.put (some t) (.func (.func g) #[] cv)).eval (.tmp t) = .func (.func g) #[] cv := by simp [Act.eval, Act.put, Array.getD, hsz]
  have x2 : (execOp (a1.put (some t) (.func (.func g) #[] cv)).eval o2).run P w1 = .ok (.defer { target := .fn (.func g) cv, args := #[] }) w1 := by
   simp [execOp, h2, resolve, hev, Deferred.ofValue]
  have k1 : ∀ a : Act, Region.wanted o1 (yielded #[o1, o2] a.tmps) = true := fun a => wanted_none hg1
  have k2 : ∀ a : Act, Region.wanted o2 (yielded #[o1, o2] a.tmps) = true := fun a => wanted_none hg2
  have g0 : (#[o1, o2] : Array Oper)[0]? = some o1 := rfl
  have g1 : (#[o1, o2] : Array Oper)[1]? = some o2 := rfl
  simp only [wpOps, g0, g1, k1, k2, if_true]
  refine .inl ?_
  unfold Oper.wp
  rw [x1, Oper.upon_value, hd1]
  refine .inl ?_
  rw [x2, Oper.upon_defer, hd2]
  show Code.wp P _ _ _ w1
  have hr2 : SRep (e.d [{ target := .fn (.func g) cv, args := #[] }]) ⟨n, objs.length⟩ st1 loc1 (Act.put { a1.put (some t) (.func (.func g) #[] cv) with defers := { target := .fn (.func g) cv, args := #[] } :: (a1.put (some t) (.func (.func g) #[] cv)).defers } none undef) w1 := by
   have hdf : a1.defers = [] := hr1.defers
   refine ⟨hr1.heap.d'.d _, by have := hr1.size; simpa [Act.put] using this, hr1.base, hr1.n0le, by simp [Act.put, hdf, Env.d], fun q => ?_⟩
   by_cases hq : q = t
   ·subst hq; rw [hlk]; trivial
   ·have hs := hr1.slot q
    have : (a1.tmps.setIfInBounds t (.func (.func g) #[] cv)).getD q undef = a1.tmps.getD q undef := by
     simp [Array.getD_eq_getD_getElem?, Array.getElem?_setIfInBounds_ne (Ne.symm hq)]
    simp only [Act.put]
    rw [this]; exact hs
  refine wp_mono (hrest _ loc1 _ w1 hr2) ?_
  rintro ex a' w' ⟨st', loc', hq', hr'⟩
  have fin : RetOk P ⟨n, objs.length⟩ fn post st' → Leaves P fn a'.tmps (fun en w' => ∃ v r objs' loc', en = .returned v ∧ post r objs' ∧ HRep e objs' loc' w' ∧ RepA (ctx e objs' loc' w') r v ∧ objs.length ≤ objs'.length ∧ ∀ i, i < objs.length → loc' i = loc i) a'.defers .returning w' := by
   rintro ⟨st2, r, hsub, hres, hpost⟩
   obtain ⟨loc2, hr3⟩ := hsub _ loc' a' w' hr'
   obtain ⟨v, hv, hrep⟩ := hres _ loc2 a' w' hr3
   have hdf : a'.defers = [{ target := .fn (.func g) cv, args := #[] }] := hr'.defers
   rw [hdf]
   have hinv : (invoke (.fn (.func g) cv) #[]).run P w' = .ok (.enter g cv) w' := by
    simp only [invoke, Array.empty_append]; exact run_callFunc hgb cv w'
   refine ⟨by simp, .func g, cv, g, cv, rfl, hinv, ?_⟩
   intro c cs hc
   obtain ⟨en, u', w2, fr, ⟨⟨v2, rfl⟩, rfl, rfl⟩, hcomes⟩ := hq cv w' c cs hc
   exact ⟨.returned v2, .returning, w2, fr, ⟨v, hv, v, r, st2.objs, loc2, rfl, hpost, hr3.heap.d', hrep, hr3.n0le, fun i hi => (hr3.base i hi).trans (hl i)⟩, hcomes⟩
  cases ex with
  | normal => exact fin hq'
  | ret => exact fin hq'
  | exit id => exact hq'.elim
  | goto l => exact hq'.elim
  | panic c => exact hq'.elim
  | outgrown => exact hq'.elim
 | ret => exact hd.elim
 | exit id => exact hd.elim
 | goto l => exact hd.elim
 | panic c => exact hd.elim
 | outgrown => exact hd.elim
def vI (l : List Int) : Cell := .vec l.length 1 (gL (cInt .i64) 0 l)
def aI (T : Nat) (l : List Int) : Ob := .arr T 1 l.length (gL (cInt .i64) 0 l)
def aB (T : Nat) (l : List Bool) : Ob := .arr T 1 l.length (gL cBool false l)
end Go.Proofs.Ytfefnffdocmlmaa.E
