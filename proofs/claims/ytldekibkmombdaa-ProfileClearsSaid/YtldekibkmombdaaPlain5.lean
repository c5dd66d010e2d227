/- The plain law of ProfileClears: both ways of clearing keep the same profiles. -/
import Derived.Test.YtldekibkmombdaaPlainA
namespace Go.Proofs.Ytldekibkmombdaa.M
open Go Go.Proofs.Ytldekibkmombdaa.E Go.Proofs.Ytldekibkmombdaa.W
theorem plain_chargenetlaw15_ProfileClears (a0 : List SProfile) (a1 : Int) (w0 : okVec okSProfile a0) (w1 : (Lit.int .i64 a1).wf = true) : ∃ F, chargenetlaw15_ProfileClears F a0 a1 = some true := by
  refine ⟨60, ?_⟩
  unfold chargenetlaw15_ProfileClears
  rw [few_eq, awake60]
  by_cases hl : a0.length ≤ 20
  · cases hs : a0.all small with
    | false => simp [hl]
    | true =>
      rw [clear_eq a0 a1 hl hs, clear_ref_eq a0 a1 hl]
      have hf : (a0.filter fun p => !decide (p.ID = a1)).all small = true := by
        rw [List.all_eq_true]
        intro x hx
        exact List.all_eq_true.1 hs x (List.mem_filter.1 hx).1
      have hfl : (a0.filter fun p => !decide (p.ID = a1)).length ≤ a0.length := List.length_filter_le _ _
      simp only [hl, decide_true, Bool.and_self, Option.bind_some, Bool.not_true, cond_false, profile_Clear_p3]
      cases decide (((a0.filter fun p => !decide (p.ID = a1)).length : Int) = (a0.length : Int)) with
      | true => simp [sameAll_self a0 (by omega) hs]
      | false => simp [sameAll_self _ (by omega) hf]
  · simp [hl]
end Go.Proofs.Ytldekibkmombdaa.M
