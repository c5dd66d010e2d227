/- The plain law of CurtailAt: At and Next agree with the reference. -/
import Derived.Test.YtcccjpkfifefaaaPlainD
namespace Go.Proofs.Ytcccjpkfifefaaa.M
open Go Go.Proofs.Ytcccjpkfifefaaa.E Go.Proofs.Ytcccjpkfifefaaa.W
set_option linter.unusedVariables false
set_option linter.unusedSimpArgs false

theorem plain_chargenetlaw13_CurtailAt (a0 : List SCurtail) (a1 : Int) (a2 : Int) (w0 : okVec okSCurtail a0) (w1 : (Lit.int .i64 a1).wf = true) (w2 : (Lit.int .i64 a2).wf = true) : ∃ F, chargenetlaw13_CurtailAt F a0 a1 a2 = some true := by
  refine ⟨1000, ?_⟩
  unfold chargenetlaw13_CurtailAt
  rw [example_ok]
  by_cases h : (100 : Int) < (a0.length : Int)
  · simp [h]
  · obtain ⟨q, hq, hi⟩ := build_eq a0 (by omega)
    have hlen := hi.len
    have hL : Lim13 q := ⟨hi.len, hi.ok⟩
    obtain ⟨r, h1, h2⟩ := next_eq q hL a2
    obtain ⟨r', h3, h4⟩ := ref_next q hL a2
    rw [show decide ((100 : Int) < (a0.length : Int)) = false by simpa using h, cond_false, hq]
    simp only [Option.bind_some, cond_true]
    rw [at_eq q (by omega), ref_at_eq q (by omega), h1, h3, isNext_unique q a2 r r' h2 h4]
    simp
end Go.Proofs.Ytcccjpkfifefaaa.M
