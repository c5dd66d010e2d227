/- Function values: methods with their receivers, comparison with nil; deferred functions that find nothing to recover. -/
import Derived.Test.YtoncfkdgddfnlaaEngU
import Derived.Test.YtoncfkdgddfnlaaEngM
import Derived.Defers
import Derived.Recover
namespace Go.Proofs.Ytoncfkdgddfnlaa.E
open Go Go.RowKit
set_option linter.unusedVariables false
section
variable {P : Program} {o : Oper} {ev : Operand → AV} {objs : List Ob} {f : Nat} {args : Array Operand} {tys : Array TypeId} {x y : Operand}
end
def Hush (P : Program) (g : FuncId) : Prop := ∀ (args : Array Value) (w : World), CallsD P g args .returning w fun en u' w' => (∃ v, en = .returned v) ∧ u' = .returning ∧ w' = w
def ifaceB (P : Program) (t : TypeId) : Bool :=
 match P.underlying t with
 | some (.interface _) => true
 | _ => false
theorem Hush.of {P : Program} {g : FuncId} {fn : Func} {id : Nat} {o1 o2 : Oper} {x : Code} {t1 t2 : Nat} {ty ty2 : TypeId} (hf : P.funcs[g]? = some fn) (hb : fn.body = some (.seq (.region id #[o1, o2] false) (.cond (.tmp t2) x .skip)))
  (h1 : o1.op = .call { callee := .builtin .recover, args := #[], argTypes := #[] }) (hd1 : o1.dst = some t1) (hg1 : o1.guard = none)
  (h2 : o2.op = .binOp .neq ty (.tmp t1) (.const .nilIface) ty2) (hd2 : o2.dst = some t2) (hg2 : o2.guard = none) (hr : fn.results = #[]) (ht1 : Nat.blt t1 fn.ntmps = true) (ht2 : Nat.blt t2 fn.ntmps = true) (hu : ifaceB P ty = true) : Hush P g := by
 intro args w
 have ht1 : t1 < fn.ntmps := by simpa [Nat.blt_eq] using ht1
 have ht2 : t2 < fn.ntmps := by simpa [Nat.blt_eq] using ht2
 obtain ⟨ms, hms⟩ : ∃ ms, P.underlying ty = some (.interface ms) := by
  unfold ifaceB at hu
  split at hu
  ·exact ⟨_, by assumption⟩
  ·cases hu
 refine callsD_of_wpS hf hb ?_
 intro c0 cs hm
 obtain ⟨A, hA⟩ : ∃ A : Act, A = { tmps := args ++ Array.replicate (fn.ntmps - args.size) undef, defers := [] } := ⟨_, rfl⟩
 have hAs : fn.ntmps ≤ A.tmps.size := by rw [hA]; simp; omega
 have hAd : A.defers = [] := by rw [hA]
 rw [← hA]
 refine wpS_seq (wpS_region ?_)
 have hrec : recoverD (c0 :: cs) = none := by simp [recoverD, hm]
 have e1 : (execOp A.eval o1).run P w = .ok .recover w := by
  simp [execOp, h1, resolve, invoke, builtin]
 have hev : (A.put (some t1) .nilIface).eval (.tmp t1) = .nilIface := by
  have : t1 < A.tmps.size := by omega
  simp [Act.eval, Act.put, Array.getD, this]
 have hb2 : (binOp .neq ty .nilIface .nilIface).run P w = .ok (.bool false) w := by
  have key : ∀ d, (Op.equalIn (d + 1) ty .nilIface .nilIface).run P w = .ok true w := fun d => by simp [Op.equalIn, run_underlying hms]
  have h3 : (Op.equal ty .nilIface .nilIface).run P w = .ok true w := key 9999
  show (do pure (Value.bool (!(← Op.equal ty .nilIface .nilIface))) : Sem Value).run P w = _
  simp only [Sem.run_bind, h3, Result.andThen_ok, Sem.run_pure]; rfl
 have e2 : (execOp (A.put (some t1) .nilIface).eval o2).run P w = .ok (.value (.bool false)) w := by
  have hg : (eqGuard .neq ty (.tmp t1) (.const .nilIface) .nilIface .nilIface).run P w = .ok () w := rfl
  have hc : (A.put (some t1) .nilIface).eval (.const .nilIface) = .nilIface := rfl
  simp only [execOp, h2, hev, hc, Sem.run_bind, hg, hb2, Result.andThen_ok, Sem.run_pure]
 show wpOpsS P #[o1, o2] _ [0, 1] A (c0 :: cs) w
 have w1 : ∀ a : Act, Region.wanted o1 (yielded #[o1, o2] a.tmps) = true := fun a => wanted_none hg1
 have w2 : ∀ a : Act, Region.wanted o2 (yielded #[o1, o2] a.tmps) = true := fun a => wanted_none hg2
 have g0 : (#[o1, o2] : Array Oper)[0]? = some o1 := rfl
 have g1 : (#[o1, o2] : Array Oper)[1]? = some o2 := rfl
 simp only [wpOpsS, g0, g1, w1, w2, if_true, e1, hrec, hd1, e2, hd2, Oper.upon_value]
 show Code.wpS P _ _ _ _ _
 refine wpS_cond (t := false) ?_ ?_
 ·have : t2 < (A.put (some t1) .nilIface).tmps.size := by simp [Act.put]; omega
  simp [Act.eval, Act.put, Array.getD] at this ⊢
  omega
 ·refine wpS_of_wp (wp_skip ?_)
  refine ⟨by simp [Act.put, hAd], .returning, ?_, .tuple #[], ?_, ⟨_, rfl⟩, rfl, rfl⟩
  ·cases c0; simp at hm; subst hm; rfl
  ·rw [results_eq, hr]; simp [Array.mapM_eq_mapM_toList]
def vI (l : List Int) : Cell := .vec l.length 1 (gL (cInt .i64) 0 l)
def aI (T : Nat) (l : List Int) : Ob := .arr T 1 l.length (gL (cInt .i64) 0 l)
end Go.Proofs.Ytoncfkdgddfnlaa.E
