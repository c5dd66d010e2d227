/- Plain law of chapter 18: Check returns what the reference returns. -/
import Derived.Test.YtfefnffdocmlmaaPlainH
namespace Go.Proofs.Ytfefnffdocmlmaa.M
open Go Go.Proofs Go.Proofs.Ytfefnffdocmlmaa.E Go.Proofs.Ytfefnffdocmlmaa.W
set_option linter.unusedVariables false

theorem checks_l {p : SProblem} (h : VP p) (hv : plan_Valid FF p = some 0) (hv2 : chargenetref18_Valid FF p = some 0) (e : List Int) (l : List (List Int)) (hl : l.length ≤ 10) : ∀ (k i : Nat), i ≤ l.length → l.length < k + i → chargenetlaw18_PlanChecks_l28 FF p e l k (i : Int) = some true
  | 0, i, h1, h2 => by omega
  | k + 1, i, h1, h2 => by
    simp only [chargenetlaw18_PlanChecks_l28, chargenetlaw18_PlanChecks_b28]
    rw [Int.toNat_natCast]
    by_cases hi : i < l.length
    · rw [decide_eq_true (show (i : Int) < (l.length : Int) by omega), cond_true, guard_pos (show (0 : Int) ≤ (i : Int) ∧ (i : Int) < (l.length : Int) by omega), ex_ok, Option.bind_some, wsucc i (by omega), checks_l h hv hv2 e l hl k (i + 1) (by omega) (by omega)]
      cases decide (20 < ((l.getD i []).length : Int)) <;> rfl
    · rw [decide_eq_false (show ¬ (i : Int) < (l.length : Int) by omega), cond_false]
      unfold chargenetlaw18_PlanChecks_p16
      obtain ⟨b, b1, b2, _⟩ := checks_eq h FF FF_ge hv hv2 e l
      rw [b1, b2]
      simp

theorem plain_chargenetlaw18_PlanChecks (a0 : SProblem) (a1 : List Int) (a2 : List (List Int)) (w0 : okSProblem a0) (w1 : okVec (fun x : Int => (Lit.int .i64 x).wf = true) a1) (w2 : okVec (fun x : List Int => okVec (fun x : Int => (Lit.int .i64 x).wf = true) x) a2) : ∃ F, chargenetlaw18_PlanChecks F a0 a1 a2 = some true := by
  refine ⟨FF, ?_⟩
  obtain ⟨b, h1, h2⟩ := small_eq FF FF_ge a0
  unfold chargenetlaw18_PlanChecks
  rw [h1, ex_ok, Option.bind_some, Option.bind_some]
  cases b with
  | false => rfl
  | true =>
    obtain ⟨hp, hv, hv2, _⟩ := h2 rfl
    rw [Bool.not_true, cond_false]
    by_cases c1 : 10 < (a1.length : Int)
    · rw [decide_eq_true c1]; rfl
    rw [decide_eq_false c1, cond_false]
    by_cases c2 : 10 < (a2.length : Int)
    · rw [decide_eq_true c2]; rfl
    rw [decide_eq_false c2, cond_false]
    exact checks_l hp hv hv2 a1 a2 (by omega) FF 0 (by omega) (by have := FF_ge; omega)
end Go.Proofs.Ytfefnffdocmlmaa.M
