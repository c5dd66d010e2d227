/- Plain laws of chapter 18: the reference's Check. -/
import Derived.Test.YtfefnffdocmlmaaPlainG
namespace Go.Proofs.Ytfefnffdocmlmaa.M
open Go Go.Proofs Go.Proofs.Ytfefnffdocmlmaa.E Go.Proofs.Ytfefnffdocmlmaa.W
set_option linter.unusedVariables false
set_option linter.unusedSimpArgs false
def enOk (e : List Int) : Prop := ∀ j, j < e.length → 0 ≤ e.getD j 0 ∧ e.getD j 0 ≤ 1099511627776
theorem en_l (e : List Int) (he : e.length ≤ 1000) : ∀ (k i : Nat), i ≤ e.length → e.length < k + i →
  ∃ r, plan_check_l15 e k (i : Int) = some r ∧ chargenetref18_energies_l15 e k (i : Int) = some r ∧ (r = 0 ∨ r = 1) ∧ (r = 0 ↔ ∀ j, i ≤ j → j < e.length → 0 ≤ e.getD j 0 ∧ e.getD j 0 ≤ 1099511627776)
 | 0, i, h1, h2 => by omega
 | k + 1, i, h1, h2 => by
  simp only [plan_check_l15, plan_check_b15, chargenetref18_energies_l15, chargenetref18_energies_b15]
  rw [Int.toNat_natCast]
  by_cases hi : i < e.length
  ·rw [decide_eq_true (show (i : Int) < (e.length : Int) by omega), cond_true, cond_true, guard_pos (show (0 : Int) ≤ (i : Int) ∧ (i : Int) < (e.length : Int) by omega), guard_pos (show (0 : Int) ≤ (i : Int) ∧ (i : Int) < (e.length : Int) by omega)]
   by_cases a1 : e.getD i 0 < 0
   ·rw [decide_eq_true a1]; exact ⟨1, rfl, rfl, .inr rfl, ⟨fun hh => absurd hh (by decide), fun hh => by have := hh i (Nat.le_refl _) hi; omega⟩⟩
   by_cases a2 : 1099511627776 < e.getD i 0
   ·rw [decide_eq_false a1, decide_eq_true a2]; exact ⟨1, rfl, rfl, .inr rfl, ⟨fun hh => absurd hh (by decide), fun hh => by have := hh i (Nat.le_refl _) hi; omega⟩⟩
   rw [decide_eq_false a1, decide_eq_false a2, wsucc i (by omega)]
   simp only [cond_false]
   obtain ⟨r, r1, r2, r3, r4⟩ := en_l e he k (i + 1) (by omega) (by omega)
   refine ⟨r, r1, r2, r3, r4.trans ⟨fun hh j s1 s2 => ?_, fun hh j s1 s2 => hh j (by omega) s2⟩⟩
   by_cases hji : j = i
   ·subst hji; omega
   ·exact hh j (by omega) s2
  ·rw [decide_eq_false (show ¬ (i : Int) < (e.length : Int) by omega)]
   exact ⟨0, rfl, rfl, .inl rfl, ⟨fun _ j s1 s2 => by omega, fun _ => rfl⟩⟩
theorem energies_eq {p : SProblem} (h : VP p) (F : Nat) (hF : 100000000000000000 ≤ F) (hv : plan_Valid F p = some 0) (hv2 : chargenetref18_Valid F p = some 0) (e : List Int) :
  ∃ r, plan_check F p e = some r ∧ chargenetref18_energies F p e = some r ∧ (r = 0 ∨ r = 1) ∧ (r = 0 ↔ e.length = p.Demands.length ∧ enOk e) := by
 have hnd := h.nd
 unfold plan_check chargenetref18_energies
 rw [hv, hv2]
 simp only [Option.bind_some, decide_true, Bool.not_true, cond_false]
 by_cases a : (e.length : Int) = (p.Demands.length : Int)
 ·rw [decide_eq_true a, Bool.not_true, cond_false, cond_false]
  obtain ⟨r, r1, r2, r3, r4⟩ := en_l e (by omega) F 0 (by omega) (by omega)
  exact ⟨r, r1, r2, r3, r4.trans ⟨fun hh => ⟨by omega, fun j hj => hh j (by omega) hj⟩, fun hh j _ hj => hh.2 j hj⟩⟩
 ·rw [decide_eq_false a]
  exact ⟨1, rfl, rfl, .inr rfl, ⟨fun hh => absurd hh (by decide), fun hh => absurd hh.1 (by omega)⟩⟩
theorem small_eq (F : Nat) (hF : 100000000000000000 ≤ F) (p : SProblem) : ∃ b, chargenetlaw18_Small F p = some b ∧ (b = true → VP p ∧ plan_Valid F p = some 0 ∧ chargenetref18_Valid F p = some 0 ∧ p.Demands.length ≤ 6 ∧ p.Caps.length ≤ 12 ∧ p.Parents.length ≤ 4) := by
 obtain ⟨e, h1, h2, h3⟩ := validP_eq F hF p
 unfold chargenetlaw18_Small
 by_cases a1 : (p.Demands.length : Int) ≤ 6
 ·rw [decide_eq_true a1, cond_true]
  by_cases a2 : (p.Caps.length : Int) ≤ 12
  ·rw [decide_eq_true a2, cond_true]
   by_cases a3 : (p.Parents.length : Int) ≤ 4
   ·rw [decide_eq_true a3, cond_true, h2, Option.bind_some]
    refine ⟨decide (e = 0), rfl, fun h => ?_⟩
    have he : e = 0 := of_decide_eq_true h
    exact ⟨h3 he, by rw [h1, he], by rw [he], by omega, by omega, by omega⟩
   ·rw [decide_eq_false a3]; exact ⟨false, rfl, fun h => absurd h (by decide)⟩
  ·rw [decide_eq_false a2]; exact ⟨false, rfl, fun h => absurd h (by decide)⟩
 ·rw [decide_eq_false a1]; exact ⟨false, rfl, fun h => absurd h (by decide)⟩
end Go.Proofs.Ytfefnffdocmlmaa.M
