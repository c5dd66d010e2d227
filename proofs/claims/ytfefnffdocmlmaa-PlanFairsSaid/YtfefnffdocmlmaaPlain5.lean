/- Plain law of chapter 18: Fair returns what the reference returns. -/
import Derived.Test.YtfefnffdocmlmaaPlainO
import Derived.Test.YtfefnffdocmlmaaPlainP
namespace Go.Proofs.Ytfefnffdocmlmaa.M
open Go Go.Proofs Go.Proofs.Ytfefnffdocmlmaa.E Go.Proofs.Ytfefnffdocmlmaa.W
set_option linter.unusedVariables false
theorem same_l (a : List Int) (h8 : a.length ≤ 1000) : ∀ (k i : Nat), i ≤ a.length → a.length < k + i → chargenetlaw18_sameInts_l12 a a k (i : Int) = some true
 | 0, i, h1, h2 => by omega
 | k + 1, i, h1, h2 => by
  simp only [chargenetlaw18_sameInts_l12, chargenetlaw18_sameInts_b12]
  by_cases hi : i < a.length
  ·rw [decide_eq_true (show (i : Int) < (a.length : Int) by omega), cond_true, guard_pos (show (0 : Int) ≤ (i : Int) ∧ (i : Int) < (a.length : Int) by omega), guard_pos (show (0 : Int) ≤ (i : Int) ∧ (i : Int) < (a.length : Int) by omega), wsucc i (by omega)]
   simp only [decide_true, Bool.not_true, cond_false]
   exact same_l a h8 k (i + 1) (by omega) (by omega)
  ·rw [decide_eq_false (show ¬ (i : Int) < (a.length : Int) by omega)]
   rfl
theorem plain_chargenetlaw18_PlanFairs (a0 : SProblem) (w0 : okSProblem a0) : ∃ F, chargenetlaw18_PlanFairs F a0 = some true := by
 refine ⟨FF, ?_⟩
 obtain ⟨b, h1, h2⟩ := small_eq FF FF_ge a0
 unfold chargenetlaw18_PlanFairs
 rw [h1, ex_ok, Option.bind_some, Option.bind_some]
 cases b with
 | false => rfl
 | true =>
  obtain ⟨hp, hv, hv2, _⟩ := h2 rfl
  obtain ⟨fit, hf⟩ := fit_ex a0
  obtain ⟨r, r1, r2, r3⟩ := pfair_eq hp FF FF_ge hv hf
  obtain ⟨q, q1, q2⟩ := rfair_eq hp FF FF_ge hv2 hf
  have hb0 := (fm_start (En_caps hp) fit (fit_zero hp hf _)).1
  obtain ⟨lam, _, hfm⟩ := hb0
  have he : r = q := r3.uniq (fit_mono hf _ rfl _) hfm.box q q2
  subst he
  have hl := r2.1.len
  have hnd := hp.nd
  have hs := same_l r (by omega) FF 0 (by omega) (by have := FF_ge; omega)
  rw [show ((0 : Nat) : Int) = 0 from rfl] at hs
  rw [Bool.not_true, cond_false, r1, q1, Option.bind_some, Option.bind_some]
  simp only [decide_true, cond_true]
  rw [compare_self FF FF_ge r (by omega), Option.bind_some]
  unfold chargenetlaw18_sameInts
  simp only [decide_true, Bool.not_true, cond_true, cond_false]
  rw [hs]
  rfl
end Go.Proofs.Ytfefnffdocmlmaa.M
