/- Plain law of chapter 18: Feasible returns what the reference returns. -/
import Derived.Test.YtfefnffdocmlmaaPlainJ
namespace Go.Proofs.Ytfefnffdocmlmaa.M
open Go Go.Proofs Go.Proofs.Ytfefnffdocmlmaa.E Go.Proofs.Ytfefnffdocmlmaa.W
set_option linter.unusedVariables false

theorem plain_chargenetlaw18_PlanFeasibles (a0 : SProblem) (a1 : List Int) (w0 : okSProblem a0) (w1 : okVec (fun x : Int => (Lit.int .i64 x).wf = true) a1) : ∃ F, chargenetlaw18_PlanFeasibles F a0 a1 = some true := by
  refine ⟨FF, ?_⟩
  obtain ⟨b, h1, h2⟩ := small_eq FF FF_ge a0
  unfold chargenetlaw18_PlanFeasibles
  rw [h1, ex_ok, Option.bind_some, Option.bind_some]
  cases b with
  | false => rfl
  | true =>
    obtain ⟨hp, hv, hv2, _⟩ := h2 rfl
    rw [Bool.not_true, cond_false]
    by_cases c1 : 10 < (a1.length : Int)
    · rw [decide_eq_true c1]; rfl
    rw [decide_eq_false c1, cond_false]
    obtain ⟨ok, r, f1, f2, _⟩ := feasible_eq hp FF FF_ge hv hv2 a1
    rw [f1, f2]
    simp
end Go.Proofs.Ytfefnffdocmlmaa.M
