/- The plain law of ComposeRanges: Series of no profiles. -/
import Derived.Test.YtjpooimkhkhgkaaPlainB
namespace Go.Proofs.Ytjpooimkhkhgkaa.M
open Go Go.Proofs.Ytjpooimkhkhgkaa.E Go.Proofs.Ytjpooimkhkhgkaa.W
set_option linter.unusedVariables false
set_option linter.unusedSimpArgs false

theorem nil_limit (start t : Int) : compose_limit 300000060 [] start t = some 1073741824 := by rfl
theorem nil_pause (start t : Int) : compose_pause 300000060 [] start t = some 268435457 := by rfl
theorem nil_earliest (start t : Int) (o : List Int) : compose_earliest 300000060 [] start t o = some (268435457, o) := by rfl

theorem nil_next_l (start t last : Int) (ht : 0 ≤ t ∧ t ≤ 268435456) (hlast : last ≤ 268435456) (n : Nat) : compose_next_l48 300000060 [] start last (n + 1) t t 268435457 [] = some (-1) := by
  simp only [compose_next_l48, compose_next_b48, compose_next_p5, compose_next_p63, nil_earliest]
  by_cases h : t < last
  · rw [decide_eq_true h, cond_true]
    simp only [Option.bind_some]
    rw [guard_pos trivial, decide_eq_true (show last < 268435457 by omega)]
    cases decide ((10080 : Int) < IntKind.wrap .i64 (268435457 - t)) <;> simp
  · rw [decide_eq_false h]; rfl

theorem nil_next (start t last : Int) (ht : 0 ≤ t ∧ t ≤ 268435456) (hlast : last ≤ 268435456) : compose_next 300000060 [] start t last = some (-1) := by
  unfold compose_next compose_next_p66
  rw [decide_eq_false (show ¬ t < 0 by omega), cond_false, nil_pause, Option.bind_some]
  rw [guard_pos (by simp)]
  exact nil_next_l start t last ht hlast 300000059

theorem series_0 (a0 : Int) (h : 0 ≤ a0) (n : Nat) : compose_Series_l27 300000060 0 (SSpan.mk a0 a0) [] (n + 1) a0 [] = some ([], 0) := by
  simp only [compose_Series_l27, compose_Series_b27, compose_Series_p8]
  rw [decide_eq_true h, decide_eq_false (Int.lt_irrefl a0)]
  rfl
theorem series_1 (a0 a1 : Int) (h : 0 ≤ a0) (hlt : a0 < a1) (h1 : a1 ≤ 268435456) (n : Nat) : compose_Series_l27 300000060 0 (SSpan.mk a0 a1) [] (n + 1 + 1) a0 [] = some ([SStep.mk a0 1073741824], 0) := by
  have hw1 : IntKind.wrap .i64 (a1 - 1) = a1 - 1 := Go.IntWalk.i64_in _ (by omega)
  simp only [compose_Series_l27, compose_Series_b27, compose_Series_p8]
  simp only [nil_limit, hw1, nil_next 0 a0 (a1 - 1) (by omega) (by omega), Option.bind_some]
  rw [decide_eq_true h, decide_eq_true hlt, cond_true, cond_true, decide_eq_false (by simp), cond_false, guard_pos (by simp)]
  rfl

theorem plain_chargenetlaw16_ComposeRanges (a0 : Int) (a1 : Int) (w0 : (Lit.int .i64 a0).wf = true) (w1 : (Lit.int .i64 a1).wf = true) : ∃ F, chargenetlaw16_ComposeRanges F a0 a1 = some true := by
  refine ⟨300000060, ?_⟩
  have b0 := wf64 w0
  have b1 := wf64 w1
  unfold chargenetlaw16_ComposeRanges compose_Series
  simp only
  by_cases h1 : a0 < 0
  · rw [decide_eq_true h1]; rfl
  rw [decide_eq_false h1, cond_false]
  by_cases h2 : a1 < a0
  · rw [decide_eq_true h2]; rfl
  rw [decide_eq_false h2, cond_false]
  by_cases h3 : 268435456 < a1
  · rw [decide_eq_true h3]; rfl
  rw [decide_eq_false h3, cond_false]
  have hw : IntKind.wrap .i64 (a1 - a0) = a1 - a0 := Go.IntWalk.i64_in _ (by omega)
  rw [hw]
  by_cases h4 : 20160 < a1 - a0
  · rw [decide_eq_true h4]; rfl
  rw [decide_eq_false h4, cond_false]
  have hc : compose_candidates 300000060 [] 1 ByteArray.empty = some [] := by rfl
  rw [hc, Option.bind_some]
  have hw1 : IntKind.wrap .i64 (a1 - 1) = a1 - 1 := Go.IntWalk.i64_in _ (by omega)
  by_cases h5 : a0 = a1
  · subst h5
    have hs : compose_Series_l27 300000060 0 (SSpan.mk a0 a0) [] 300000060 a0 [] = some ([], 0) := series_0 a0 (by omega) 300000059
    rw [hs]
    simp
  · have hlt : a0 < a1 := by omega
    have hs : compose_Series_l27 300000060 0 (SSpan.mk a0 a1) [] 300000060 a0 [] = some ([SStep.mk a0 1073741824], 0) := series_1 a0 a1 (by omega) hlt (by omega) 300000058
    rw [hs]
    simp [h5, E.guard]
end Go.Proofs.Ytjpooimkhkhgkaa.M
