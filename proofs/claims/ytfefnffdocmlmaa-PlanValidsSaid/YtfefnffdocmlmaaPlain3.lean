/- Plain law of chapter 18: Valid returns what the reference returns. -/
import Derived.Test.YtfefnffdocmlmaaPlainF
namespace Go.Proofs.Ytfefnffdocmlmaa.M
open Go Go.Proofs Go.Proofs.Ytfefnffdocmlmaa.E Go.Proofs.Ytfefnffdocmlmaa.W
set_option linter.unusedVariables false

theorem plain_chargenetlaw18_PlanValids (a0 : SProblem) (w0 : okSProblem a0) : ∃ F, chargenetlaw18_PlanValids F a0 = some true := by
  refine ⟨FF, ?_⟩
  obtain ⟨e, h1, h2, _⟩ := validP_eq FF FF_ge a0
  unfold chargenetlaw18_PlanValids
  rw [ex_ok, h1, h2]
  simp only [Option.bind_some, decide_true]
  cases decide (60 < (a0.Caps.length : Int)) <;> cases decide (40 < (a0.Parents.length : Int)) <;> cases decide (20 < (a0.Demands.length : Int)) <;> rfl
end Go.Proofs.Ytfefnffdocmlmaa.M
