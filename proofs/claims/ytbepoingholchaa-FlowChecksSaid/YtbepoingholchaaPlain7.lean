/- The plain law of FlowChecks. -/
import Derived.Test.YtbepoingholchaaPlainE
namespace Go.Proofs.Ytbepoingholchaa.M
open Go Go.Proofs.Ytbepoingholchaa.E Go.Proofs.Ytbepoingholchaa.W
set_option linter.unusedVariables false
set_option linter.unusedSimpArgs false

theorem plain_chargenetlaw09_FlowChecks (a0 : SClaim) (w0 : okSClaim a0) : ∃ F, chargenetlaw09_FlowChecks F a0 = some true := by
  refine ⟨FF, ?_⟩
  unfold chargenetlaw09_FlowChecks
  obtain ⟨r, h1, h2⟩ := check_eq FF FF_ge (SNet.mk a0.N_Nodes a0.N_Arcs) a0.Source a0.Sink a0.L
  rw [awake_ok, small_eq, h1, h2]
  simp only [Option.bind_some, decide_true, cond_true, BEq.rfl]
  cases decide ((SNet.mk a0.N_Nodes a0.N_Arcs).Nodes ≤ 64 ∧ ((SNet.mk a0.N_Nodes a0.N_Arcs).Arcs.length : Int) ≤ 200) <;> cases decide ((210 : Int) < (a0.L.length : Int)) <;> rfl
end Go.Proofs.Ytbepoingholchaa.M
