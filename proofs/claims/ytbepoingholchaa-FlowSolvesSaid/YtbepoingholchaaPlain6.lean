/- The plain law of FlowSolves: Max and Cut agree with those found by searching paths. -/
import Derived.Test.YtbepoingholchaaPlainH
namespace Go.Proofs.Ytbepoingholchaa.M
open Go Go.Proofs.Ytbepoingholchaa.E Go.Proofs.Ytbepoingholchaa.W
set_option linter.unusedVariables false
set_option linter.unusedSimpArgs false

theorem plain_chargenetlaw09_FlowSolves (a0 : SNet) (a1 : Int) (a2 : Int) (w0 : okSNet a0) (w1 : (Lit.int .i64 a1).wf = true) (w2 : (Lit.int .i64 a2).wf = true) : ∃ F, chargenetlaw09_FlowSolves F a0 a1 a2 = some true := by
  refine ⟨FF, ?_⟩
  unfold chargenetlaw09_FlowSolves
  rw [awake_ok, small_eq]
  rcases cases_net FF FF_ge a0 a1 a2 with ⟨e, he, h1, h2, h3, h4⟩ | ⟨N, s, t, R, ll, cl, hN, rfl, rfl, hs, ht, hst, h1, h2, h3, h4, h5, h6, h7, h8⟩
  · rw [h2]
    simp only [Option.bind_some]
    rw [decide_eq_false he]
    cases decide (a0.Nodes ≤ 10 ∧ (a0.Arcs.length : Int) ≤ 20) <;> rfl
  · have hmost := hN.most
    obtain ⟨lr, Rr, r1, r2, r3⟩ := rmax_eq FF FF_ge hN hs ht hst h2
    obtain ⟨R', q1, q2, q3⟩ := reach_eq hN hs lr r2 FF FF_ge
    have hsame : chargenetref09_Same FF cl R' = some true := same_eq FF FF_ge cl R' (by omega) (by omega) (fun v hv => by
      rw [h8 v (by omega), h5.same r3 hN.net hs v (by omega)]; exact r3.least.uniq q3 v (by omega))
    have hval := h5.val r3 hN.net hs
    rw [h2, h3, h4, r1]
    simp only [Option.bind_some]
    rw [q1]
    simp only [Option.bind_some]
    rw [hsame, hval]
    cases decide (a0.Nodes ≤ 10 ∧ (a0.Arcs.length : Int) ≤ 20) <;> simp
end Go.Proofs.Ytbepoingholchaa.M
