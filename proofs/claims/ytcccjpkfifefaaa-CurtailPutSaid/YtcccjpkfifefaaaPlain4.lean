/- The plain law of CurtailPut: in any sequence of calls both functions Put return the same. -/
import Derived.Test.YtcccjpkfifefaaaPlainB
namespace Go.Proofs.Ytcccjpkfifefaaa.M
open Go Go.Proofs.Ytcccjpkfifefaaa.E Go.Proofs.Ytcccjpkfifefaaa.W
set_option linter.unusedVariables false
set_option linter.unusedSimpArgs false

theorem puts_l (l : List SCurtail) (hl : l.length ≤ 100) : ∀ (n t : Nat) (a : List SCurtail), Inv a → t ≤ l.length → l.length < n + t → chargenetlaw13_CurtailPut_l32 1000 l n a a (t : Int) = some true
  | 0, t, a, hi, h1, h2 => by omega
  | n + 1, t, a, hi, h1, h2 => by
    simp only [chargenetlaw13_CurtailPut_l32, chargenetlaw13_CurtailPut_b32]
    by_cases ht : t < l.length
    · have e1 : decide ((t : Int) < (l.length : Int)) = true := by simpa using ht
      obtain ⟨r, h3, h4, h5⟩ := put_both a hi l[t]
      have hi2 := put_inv a hi l[t] r h5
      rw [e1, cond_true, guard_pos (by omega), getD_nat l _ t ht, h3, Option.bind_some, guard_pos (by omega), h4, Option.bind_some]
      rw [equal_self r.1 (by have := hi2.len; omega), wsucc t (by omega)]
      simp only [decide_true, Bool.not_true, cond_false, Option.bind_some]
      exact puts_l l hl n (t + 1) r.1 hi2 (by omega) (by omega)
    · have e1 : decide ((t : Int) < (l.length : Int)) = false := by simp; omega
      rw [e1, cond_false]
      unfold chargenetlaw13_CurtailPut_p6
      rw [example_ok]; rfl

theorem plain_chargenetlaw13_CurtailPut (a0 : List SCurtail) (w0 : okVec okSCurtail a0) : ∃ F, chargenetlaw13_CurtailPut F a0 = some true := by
  refine ⟨1000, ?_⟩
  unfold chargenetlaw13_CurtailPut
  rw [example_ok]
  by_cases h : (100 : Int) < (a0.length : Int)
  · simp [h]
  · rw [show decide ((100 : Int) < (a0.length : Int)) = false by simpa using h, cond_false]
    have := puts_l a0 (by omega) 1000 0 [] inv_nil (by omega) (by omega)
    simpa only [Int.natCast_zero] using this
end Go.Proofs.Ytcccjpkfifefaaa.M
