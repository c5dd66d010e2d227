/- Plain law of chapter 18: the fair energies are feasible, and none of them can be raised alone. -/
import Derived.Test.YtfefnffdocmlmaaPlainN
namespace Go.Proofs.Ytfefnffdocmlmaa.M
open Go Go.Proofs Go.Proofs.Ytfefnffdocmlmaa.E Go.Proofs.Ytfefnffdocmlmaa.W
set_option linter.unusedVariables false

theorem tight_l {p : SProblem} (h : VP p) (hv : plan_Valid FF p = some 0) (hv2 : chargenetref18_Valid FF p = some 0) {fit : List Int → Bool} (hf : ∀ l, fit l = true ↔ Fit p (ev l)) (r : List Int) (hr : FairV p.Demands.length (En p p.Demands.length) fit r) : ∀ (k i : Nat), i ≤ p.Demands.length → p.Demands.length < k + i → chargenetlaw18_PlanTight_l46 FF p (r, 0) k (i : Int) = some true
  | 0, i, h1, h2 => by omega
  | k + 1, i, h1, h2 => by
    have hnd := h.nd
    have hb := hr.1
    have hbl := hb.len
    simp only [chargenetlaw18_PlanTight_l46, chargenetlaw18_PlanTight_b46, List.nil_append, List.length_nil]
    rw [Int.toNat_natCast]
    by_cases hi : i < p.Demands.length
    · have hbi := hb.bd i hi
      have hci := (En_caps h).bd i hi
      have he := En_get p p.Demands.length i hi
      have hD : p.Demands.getD i dSDemand = D p i := rfl
      rw [he] at hbi hci
      have hx : (0 : Int) ≤ (i : Int) ∧ (i : Int) < (r.length : Int) := by omega
      have ih := tight_l h hv hv2 hf r hr k (i + 1) (by omega) (by omega)
      rw [decide_eq_true (show (i : Int) < (p.Demands.length : Int) by omega), cond_true, guard_pos (show (0 : Int) ≤ (i : Int) ∧ (i : Int) < (p.Demands.length : Int) by omega), guard_pos hx, hD, decide_eq_false (show ¬ (r.getD i 0 < 0) by omega), cond_false, guard_pos hx, decide_eq_false (show ¬ ((D p i).Energy < r.getD i 0) by omega), cond_false, guard_pos hx]
      unfold chargenetlaw18_PlanTight_p48
      simp only
      rw [wsucc i (by omega), ih]
      by_cases a : r.getD i 0 = (D p i).Energy
      · rw [decide_eq_true a]; rfl
      · rw [decide_eq_false a, cond_false, guard_pos (by omega), guard_pos hx, guard_pos hx, Go.IntWalk.i64_in (r.getD i 0 + 1) (by omega)]
        have hlt : r.getD i 0 < (En p p.Demands.length).getD i 0 := by rw [he]; omega
        have hno := hr.most (fit_mono hf _ rfl _) i hi hlt
        have hbx := set_box hb i hlt
        obtain ⟨b, q, f1, _, f3, f4⟩ := feasible_eq h FF FF_ge hv hv2 (r.set i (r.getD i 0 + 1))
        have hq : q = 0 := f3.2 (box_en h hbx)
        have hbf : b = false := by
          cases hb2 : b with
          | false => rfl
          | true =>
            have := (hf _).2 ((f4 hq).1 hb2)
            rw [hno] at this; cases this
        rw [f1, Option.bind_some, hbf]
        rfl
    · rw [decide_eq_false (show ¬ (i : Int) < (p.Demands.length : Int) by omega)]
      rfl

theorem plain_chargenetlaw18_PlanTight (a0 : SProblem) (w0 : okSProblem a0) : ∃ F, chargenetlaw18_PlanTight F a0 = some true := by
  refine ⟨FF, ?_⟩
  obtain ⟨b, h1, h2⟩ := small_eq FF FF_ge a0
  unfold chargenetlaw18_PlanTight
  rw [h1, ex_ok, Option.bind_some, Option.bind_some]
  cases b with
  | false => rfl
  | true =>
    obtain ⟨hp, hv, hv2, _⟩ := h2 rfl
    obtain ⟨fit, hf⟩ := fit_ex a0
    obtain ⟨r, r1, r2, _⟩ := pfair_eq hp FF FF_ge hv hf
    have hl := r2.1.len
    obtain ⟨b, q, f1, _, f3, f4⟩ := feasible_eq hp FF FF_ge hv hv2 r
    have hq : q = 0 := f3.2 (box_en hp r2.1)
    have hb : b = true := (f4 hq).2 ((hf r).1 r2.2.1)
    have := tight_l hp hv hv2 hf r r2 FF 0 (by omega) (by have := hp.nd; have := FF_ge; omega)
    rw [show ((0 : Nat) : Int) = 0 from rfl] at this
    rw [Bool.not_true, cond_false, r1, Option.bind_some]
    simp only [decide_true]
    rw [Bool.not_true, cond_false, decide_eq_true (show (r.length : Int) = (a0.Demands.length : Int) by omega), Bool.not_true, cond_false, f1, hb, hq, Option.bind_some, this]
    rfl
end Go.Proofs.Ytfefnffdocmlmaa.M
