/- The plain law of FlowMaxes: Max returns a greatest flow and its value. -/
import Derived.Test.YtbepoingholchaaPlainF
namespace Go.Proofs.Ytbepoingholchaa.M
open Go Go.Proofs.Ytbepoingholchaa.E Go.Proofs.Ytbepoingholchaa.W
set_option linter.unusedVariables false
set_option linter.unusedSimpArgs false

theorem plain_chargenetlaw09_FlowMaxes (a0 : SNet) (a1 : Int) (a2 : Int) (w0 : okSNet a0) (w1 : (Lit.int .i64 a1).wf = true) (w2 : (Lit.int .i64 a2).wf = true) : ∃ F, chargenetlaw09_FlowMaxes F a0 a1 a2 = some true := by
  refine ⟨FF, ?_⟩
  unfold chargenetlaw09_FlowMaxes
  rw [awake_ok, small_eq]
  rcases cases_net FF FF_ge a0 a1 a2 with ⟨e, he, h1, h2, h3, h4⟩ | ⟨N, s, t, R, ll, cl, hN, rfl, rfl, hs, ht, hst, h1, h2, h3, h4, h5, h6, h7, h8⟩
  · rw [h2, h3]
    simp only [Option.bind_some]
    rw [decide_eq_false he]
    cases decide (a0.Nodes ≤ 64 ∧ (a0.Arcs.length : Int) ≤ 200) <;> simp
  · rw [h2, h3]
    simp only [Option.bind_some]
    rw [greatest_eq FF FF_ge hN hs ht h2 ll h6 h5]
    cases decide (a0.Nodes ≤ 64 ∧ (a0.Arcs.length : Int) ≤ 200) <;> rfl
end Go.Proofs.Ytbepoingholchaa.M
