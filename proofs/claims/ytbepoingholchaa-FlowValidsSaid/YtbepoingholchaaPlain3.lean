/- The plain law of FlowValids. -/
import Derived.Test.YtbepoingholchaaPlainE
namespace Go.Proofs.Ytbepoingholchaa.M
open Go Go.Proofs.Ytbepoingholchaa.E Go.Proofs.Ytbepoingholchaa.W
set_option linter.unusedVariables false
set_option linter.unusedSimpArgs false

theorem plain_chargenetlaw09_FlowValids (a0 : SNet) (w0 : okSNet a0) : ∃ F, chargenetlaw09_FlowValids F a0 = some true := by
  refine ⟨FF, ?_⟩
  unfold chargenetlaw09_FlowValids
  obtain ⟨e, h1, h2, _⟩ := valid_eq FF FF_ge a0
  rw [awake_ok, h1, h2]
  cases decide ((2100 : Int) < (a0.Arcs.length : Int)) <;> simp
end Go.Proofs.Ytbepoingholchaa.M
