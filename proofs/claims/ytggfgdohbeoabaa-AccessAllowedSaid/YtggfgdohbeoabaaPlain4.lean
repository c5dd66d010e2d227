/- The plain law of AccessAllowed: both functions Allowed return the same. -/
import Derived.Test.YtggfgdohbeoabaaPlainC
namespace Go.Proofs.Ytggfgdohbeoabaa.M
open Go Go.Proofs.Ytggfgdohbeoabaa.E Go.Proofs.Ytggfgdohbeoabaa.W
set_option linter.unusedVariables false

theorem plain_chargenetlaw39_AccessAllowed (a0 : SCase) (a1 : SAsk) (w0 : okSCase a0) (w1 : okSAsk a1) : ∃ F, chargenetlaw39_AccessAllowed F a0 a1 = some true := by
  refine ⟨1000, ?_⟩
  unfold chargenetlaw39_AccessAllowed
  rw [example_ok]
  rcases small_eq a0 with h | ⟨h, hs, _⟩
  · rw [h]; rfl
  · rw [h, allowed_eq _ _ hs, ref_allowed_eq _ _ hs]; simp
end Go.Proofs.Ytggfgdohbeoabaa.M
