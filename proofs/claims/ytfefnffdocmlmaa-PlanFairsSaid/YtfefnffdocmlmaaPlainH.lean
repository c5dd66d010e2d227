/- Plain laws of chapter 18: the reference's Check. -/
import Derived.Test.YtfefnffdocmlmaaPlainG
namespace Go.Proofs.Ytfefnffdocmlmaa.M
open Go Go.Proofs Go.Proofs.Ytfefnffdocmlmaa.E Go.Proofs.Ytfefnffdocmlmaa.W
set_option linter.unusedVariables false
set_option linter.unusedSimpArgs false
def enOk (e : List Int) : Prop := ∀ j, j < e.length → 0 ≤ e.getD j 0 ∧ e.getD j 0 ≤ 1099511627776
theorem small_eq (F : Nat) (hF : 100000000000000000 ≤ F) (p : SProblem) : ∃ b, chargenetlaw18_Small F p = some b ∧ (b = true → VP p ∧ plan_Valid F p = some 0 ∧ chargenetref18_Valid F p = some 0 ∧ p.Demands.length ≤ 6 ∧ p.Caps.length ≤ 12 ∧ p.Parents.length ≤ 4) := by
 obtain ⟨e, h1, h2, h3⟩ := validP_eq F hF p
 unfold chargenetlaw18_Small
 by_cases a1 : (p.Demands.length : Int) ≤ 6
 ·rw [decide_eq_true a1, cond_true]
  by_cases a2 : (p.Caps.length : Int) ≤ 12
  ·rw [decide_eq_true a2, cond_true]
   by_cases a3 : (p.Parents.length : Int) ≤ 4
   ·rw [decide_eq_true a3, cond_true, h2, Option.bind_some]
    refine ⟨decide (e = 0), rfl, fun h => ?_⟩
    have he : e = 0 := of_decide_eq_true h
    exact ⟨h3 he, by rw [h1, he], by rw [he], by omega, by omega, by omega⟩
   ·rw [decide_eq_false a3]; exact ⟨false, rfl, fun h => absurd h (by decide)⟩
  ·rw [decide_eq_false a2]; exact ⟨false, rfl, fun h => absurd h (by decide)⟩
 ·rw [decide_eq_false a1]; exact ⟨false, rfl, fun h => absurd h (by decide)⟩
end Go.Proofs.Ytfefnffdocmlmaa.M
