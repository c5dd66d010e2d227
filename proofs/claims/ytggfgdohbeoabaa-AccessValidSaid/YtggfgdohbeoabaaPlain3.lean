/- The plain law of AccessValid: both functions Valid return the same. -/
import Derived.Test.YtggfgdohbeoabaaPlainB
namespace Go.Proofs.Ytggfgdohbeoabaa.M
open Go Go.Proofs.Ytggfgdohbeoabaa.E Go.Proofs.Ytggfgdohbeoabaa.W

theorem plain_chargenetlaw39_AccessValid (a0 : SCase) (w0 : okSCase a0) : ∃ F, chargenetlaw39_AccessValid F a0 = some true := by
  refine ⟨1000, ?_⟩
  unfold chargenetlaw39_AccessValid
  rw [example_ok]
  rcases small_eq a0 with h | ⟨h, hs, _⟩
  · rw [h]; rfl
  · rw [h, valid_eq _ _ hs, ref_valid_eq _ _ hs]; simp
end Go.Proofs.Ytggfgdohbeoabaa.M
