/- The plain law of CurtailValid: both checks of an event agree. -/
import Derived.Test.YtcccjpkfifefaaaPlainA
namespace Go.Proofs.Ytcccjpkfifefaaa.M
open Go Go.Proofs.Ytcccjpkfifefaaa.E Go.Proofs.Ytcccjpkfifefaaa.W
set_option linter.unusedVariables false
set_option linter.unusedSimpArgs false

theorem plain_chargenetlaw13_CurtailValid (a0 : SCurtail) (a1 : Int) (w0 : okSCurtail a0) (w1 : (Lit.int .u8 a1).wf = true) : ∃ F, chargenetlaw13_CurtailValid F a0 a1 = some true := by
  refine ⟨1000, ?_⟩
  have hr : 0 ≤ a1 ∧ a1 < 256 := by
    simp [Lit.wf, IntKind.min, IntKind.max, IntKind.signed, IntKind.bits] at w1
    omega
  unfold chargenetlaw13_CurtailValid
  rw [example_ok]
  by_cases h : (4096 : Int) < (a0.Name.size : Int)
  · simp [h]
  · have w2 : IntKind.wrap .i64 a1 = a1 := Go.IntWalk.i64_in _ (by omega)
    have b1 : 0 ≤ a1.tmod 41 := Int.tmod_nonneg _ (by omega)
    have b2 : a1.tmod 41 < 41 := Int.tmod_lt_of_pos _ (by omega)
    rw [show decide ((4096 : Int) < (a0.Name.size : Int)) = false by simpa using h, cond_false, w2, guard_pos (by omega)]
    unfold curtail_Valid chargenetref13_Valid
    rw [← check_eq]
    obtain ⟨e, he⟩ := check_total a0 (((List.replicate (a1.tmod 41).toNat dSFeeder).length : Nat) : Int)
    have he' := he
    simp only [he]
    simp
end Go.Proofs.Ytcccjpkfifefaaa.M
