/- The plain law of AccessTakes: both functions Take return the same. -/
import Derived.Test.YtggfgdohbeoabaaPlainD
namespace Go.Proofs.Ytggfgdohbeoabaa.M
open Go Go.Proofs.Ytggfgdohbeoabaa.E Go.Proofs.Ytggfgdohbeoabaa.W
set_option linter.unusedVariables false

theorem plain_chargenetlaw39_AccessTakes (a0 : List SGrant) (a1 : SAsk) (a2 : ByteArray) (w0 : okVec okSGrant a0) (w1 : okSAsk a1) (w2 : a2.size ≤ maxLen) : ∃ F, chargenetlaw39_AccessTakes F a0 a1 a2 = some true := by
  refine ⟨1000, ?_⟩
  unfold chargenetlaw39_AccessTakes
  rw [example_ok]
  by_cases h : (300 : Int) < (a0.length : Int)
  · simp [h]
  · have hl : a0.length ≤ 300 := by omega
    rw [show decide ((300 : Int) < (a0.length : Int)) = false by simpa using h, take_eq a0 hl, ref_take_eq a0 hl]
    have hlen : (if 0 ≤ a1.Now ∧ a1.Now ≤ 268435456 then takeS a0 a1.User a2 a1.Now 0 else (a0, 2)).1.length ≤ 900 := by
      split
      · rcases take_shape a0 a1.User a2 a1.Now _ 0 rfl with ⟨_, h⟩ | ⟨_, j, hj, _, h⟩
        · rw [h]; omega
        · rw [h]; simp; omega
      · show a0.length ≤ 900; omega
    simp only [cond_false, Option.bind_some]
    rw [same_self _ hlen]
    simp
end Go.Proofs.Ytggfgdohbeoabaa.M
