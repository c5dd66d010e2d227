/- The plain law of FairSums. -/
import Derived.Test.YthpblkclpfmbeaaPlainF
namespace Go.Proofs.Ythpblkclpfmbeaa.M
open Go Go.Proofs.Ythpblkclpfmbeaa.E Go.Proofs.Ythpblkclpfmbeaa.W
set_option linter.unusedVariables false
set_option linter.unusedSimpArgs false
theorem plain_chargenetlaw10_FairSums (a0 : Int) (a1 : List Int) (w0 : (Lit.int .i64 a0).wf = true) (w1 : okVec (fun x : Int => (Lit.int .i64 x).wf = true) a1) : ∃ F, chargenetlaw10_FairSums F a0 a1 = some true := by
  refine ⟨3000000000000, ?_⟩
  unfold chargenetlaw10_FairSums
  rw [example_ok]
  simp only [Option.bind_some]
  by_cases h1 : 80 < (a1.length : Int)
  · rw [decide_eq_true h1]; rfl
  by_cases h2 : a0 < 0
  · rw [decide_eq_false h1, decide_eq_true h2]; rfl
  rw [decide_eq_false h1, decide_eq_false h2, cond_false, cond_false]
  obtain ⟨e, e1, e2, e3⟩ := both 3000000000000 (by omega) a1
  unfold chargenetlaw10_sum
  by_cases he : e = 0
  · subst he
    have hc := e3 rfl
    obtain ⟨l, hl, sl⟩ := share_any 3000000000000 (by omega) hc a0 (by omega)
    obtain ⟨l', hl', sl'⟩ := fill_sum 3000000000000 (by omega) hc a0 (by omega)
    obtain rfl := sl.unique sl'
    have := hc.n64
    have := sl.len
    rw [hl, Option.bind_some, Option.bind_some, hl', Option.bind_some]
    simp only [decide_true, cond_true]
    rw [equal_eq _ (by omega) l l (by omega)]
    simp
  · have f1 : fair_Share 3000000000000 a0 a1 = some ([], e) := by
      unfold fair_Share
      rw [decide_eq_false h2, cond_false, e1, Option.bind_some, decide_eq_false he]; rfl
    have f2 : fair_Fill_f1_34 3000000000000 a1 a0 = some ([], e) := by
      unfold fair_Fill_f1_34
      rw [e1, Option.bind_some, decide_eq_false he]; rfl
    rw [f1, Option.bind_some, Option.bind_some, f2, Option.bind_some]
    simp only [decide_true, cond_true]
    rw [equal_eq _ (by omega) [] [] (by simp)]
    simp
end Go.Proofs.Ythpblkclpfmbeaa.M
