/- The plain law of FlowCuts: Cut returns what can be reached, and its capacity is the value. -/
import Derived.Test.YtbepoingholchaaPlainF
namespace Go.Proofs.Ytbepoingholchaa.M
open Go Go.Proofs.Ytbepoingholchaa.E Go.Proofs.Ytbepoingholchaa.W
set_option linter.unusedVariables false
set_option linter.unusedSimpArgs false

theorem plain_chargenetlaw09_FlowCuts (a0 : SNet) (a1 : Int) (a2 : Int) (w0 : okSNet a0) (w1 : (Lit.int .i64 a1).wf = true) (w2 : (Lit.int .i64 a2).wf = true) : ∃ F, chargenetlaw09_FlowCuts F a0 a1 a2 = some true := by
  refine ⟨FF, ?_⟩
  unfold chargenetlaw09_FlowCuts
  rw [awake_ok, small_eq]
  rcases cases_net FF FF_ge a0 a1 a2 with ⟨e, he, h1, h2, h3, h4⟩ | ⟨N, s, t, R, ll, cl, hN, rfl, rfl, hs, ht, hst, h1, h2, h3, h4, h5, h6, h7, h8⟩
  · rw [h2, h4]
    simp only [Option.bind_some]
    rw [decide_eq_false he]
    cases decide (a0.Nodes ≤ 64 ∧ (a0.Arcs.length : Int) ≤ 200) <;> simp
  · have hmost := hN.most
    obtain ⟨R', r1, r2, r3⟩ := reach_eq hN hs ll h6 FF FF_ge
    have hsame : chargenetref09_Same FF cl R' = some true := same_eq FF FF_ge cl R' (by omega) (by omega) (fun v hv => by
      rw [h8 v (by omega)]; exact h5.least.uniq r3 v (by omega))
    have hcap : cap a0.Arcs (bset cl) = out a0.Arcs (lf ll) s := by
      rw [h5.cap hN.net hs]; exact cap_ext hN.net h8
    rw [h2, h3, h4]
    simp only [Option.bind_some]
    rw [greatest_eq FF FF_ge hN hs ht h2 ll h6 h5, r1, cap_eq FF FF_ge hN cl h7, hcap]
    simp only [Option.bind_some]
    rw [hsame, h6, h7, hN.nodes]
    simp
end Go.Proofs.Ytbepoingholchaa.M
