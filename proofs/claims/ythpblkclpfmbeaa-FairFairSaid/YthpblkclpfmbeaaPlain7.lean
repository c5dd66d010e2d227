/- The plain law of FairFair. -/
import Derived.Test.YthpblkclpfmbeaaPlainI
namespace Go.Proofs.Ythpblkclpfmbeaa.M
open Go Go.Proofs.Ythpblkclpfmbeaa.E Go.Proofs.Ythpblkclpfmbeaa.W
set_option linter.unusedVariables false
set_option linter.unusedSimpArgs false
theorem poor_l (y x : List Int) (b : Bool) (hl : x.length = y.length) (h8 : y.length ≤ 64) (i : Nat) (hi : i < y.length) (kl : Int → Option Bool) : ∀ (k j : Nat) (p : Bool), j ≤ y.length → y.length < k + j →
    ∃ p', chargenetlaw10_FairFair_l124 y (x, b) (i : Int) kl k p (j : Int) = chargenetlaw10_FairFair_p104 y (x, b) (i : Int) kl p' ∧ (p = true → p' = true) ∧ ((∃ q, j ≤ q ∧ q < y.length ∧ y.getD q 0 < x.getD q 0 ∧ y.getD q 0 ≤ x.getD i 0) → p' = true)
  | 0, j, p, h1, h2 => by omega
  | k + 1, j, p, h1, h2 => by
    simp only [chargenetlaw10_FairFair_l124, chargenetlaw10_FairFair_b124, chargenetlaw10_FairFair_p127]
    by_cases hj : j < y.length
    · rw [decide_eq_true (by omega), cond_true, wsucc j (by omega)]
      cases p with
      | true =>
        rw [cond_true]
        obtain ⟨p', g1, g2, g3⟩ := poor_l y x b hl h8 i hi kl k (j + 1) true (by omega) (by omega)
        exact ⟨p', g1, g2, fun _ => g2 rfl⟩
      | false =>
        rw [cond_false, guard_pos (by omega), guard_pos (by omega), Int.toNat_natCast]
        by_cases hlt : y.getD j 0 < x.getD j 0
        · rw [decide_eq_true hlt, cond_true, guard_pos (by omega), guard_pos (by omega), Int.toNat_natCast]
          obtain ⟨p', g1, g2, g3⟩ := poor_l y x b hl h8 i hi kl k (j + 1) (decide (y.getD j 0 ≤ x.getD i 0)) (by omega) (by omega)
          refine ⟨p', g1, fun h => absurd h (by decide), ?_⟩
          rintro ⟨q, h3, h4, h5, h6⟩
          by_cases hqj : q = j
          · subst hqj; exact g2 (decide_eq_true h6)
          · exact g3 ⟨q, by omega, h4, h5, h6⟩
        · rw [decide_eq_false hlt, cond_false]
          obtain ⟨p', g1, g2, g3⟩ := poor_l y x b hl h8 i hi kl k (j + 1) false (by omega) (by omega)
          refine ⟨p', g1, fun h => absurd h (by decide), ?_⟩
          rintro ⟨q, h3, h4, h5, h6⟩
          by_cases hqj : q = j
          · subst hqj; exact absurd h5 hlt
          · exact g3 ⟨q, by omega, h4, h5, h6⟩
    · rw [decide_eq_false (by omega), cond_false]
      refine ⟨p, rfl, fun h => h, ?_⟩
      rintro ⟨q, h3, h4, _⟩
      omega
theorem fair_l (F : Nat) (hF : 2000 ≤ F) (y x : List Int) (b : Bool) (hl : x.length = y.length) (h8 : y.length ≤ 64) (h : ∀ i, i < y.length → x.getD i 0 < y.getD i 0 → ∃ q, q < y.length ∧ y.getD q 0 < x.getD q 0 ∧ y.getD q 0 ≤ x.getD i 0) : ∀ (k i : Nat), i ≤ y.length → y.length < k + i → chargenetlaw10_FairFair_l96 F y (x, b) k (i : Int) = some true
  | 0, i, h1, h2 => by omega
  | k + 1, i, h1, h2 => by
    simp only [chargenetlaw10_FairFair_l96, chargenetlaw10_FairFair_b96, chargenetlaw10_FairFair_p20]
    by_cases hi : i < y.length
    · rw [decide_eq_true (by omega), cond_true]
      obtain ⟨p', g1, _, g3⟩ := poor_l y x b hl h8 i hi (fun t69_58 => chargenetlaw10_FairFair_l96 F y (x, b) k t69_58) F 0 false (by omega) (by omega)
      simp only [Int.natCast_zero] at g1
      rw [g1]
      unfold chargenetlaw10_FairFair_p104 chargenetlaw10_FairFair_p98
      simp only
      rw [guard_pos (by omega), guard_pos (by omega), Int.toNat_natCast, wsucc i (by omega), fair_l F hF y x b hl h8 h k (i + 1) (by omega) (by omega)]
      by_cases hlt : x.getD i 0 < y.getD i 0
      · obtain ⟨q, h3, h4, h5⟩ := h i hi hlt
        rw [g3 ⟨q, by omega, h3, h4, h5⟩, decide_eq_true hlt]; rfl
      · rw [decide_eq_false hlt]; rfl
    · rw [decide_eq_false (by omega), cond_false]
theorem range_l (rules : List SRule) (hr : rules.length ≤ 24) {caps : List Int} (hc : Caps caps.length caps) {x : List Int} (hv : FairV caps.length caps (rfit rules) x) (b : Bool) (y : List Int) (hyl : y.length = caps.length) : ∀ (k i : Nat), i ≤ y.length → y.length < k + i → (∀ j, j < i → 0 ≤ y.getD j 0 ∧ y.getD j 0 ≤ caps.getD j 0) →
    chargenetlaw10_FairFair_l156 3000000000000 caps rules y (x, b) k (i : Int) = some true
  | 0, i, h1, h2, _ => by omega
  | k + 1, i, h1, h2, h3 => by
    have h64 := hc.n64
    have hxl := hv.1.len
    simp only [chargenetlaw10_FairFair_l156, chargenetlaw10_FairFair_b156]
    by_cases hi : i < y.length
    · rw [decide_eq_true (by omega), cond_true, guard_pos (by omega), Int.toNat_natCast, example_ok, Option.bind_some]
      by_cases c1 : y.getD i 0 < 0
      · rw [decide_eq_true c1, cond_true]
      rw [decide_eq_false c1, cond_false, guard_pos (by omega), guard_pos (by omega)]
      by_cases c2 : caps.getD i 0 < y.getD i 0
      · rw [decide_eq_true c2, cond_true]
      rw [decide_eq_false c2, cond_false, wsucc i (by omega)]
      exact range_l rules hr hc hv b y hyl k (i + 1) (by omega) (by omega) (fun j hj => by
        by_cases hji : j = i
        · subst hji; omega
        · exact h3 j (by omega))
    · rw [decide_eq_false (by omega), cond_false]
      have hby : Box caps.length caps y := ⟨hyl, fun j hj => h3 j (by omega)⟩
      unfold chargenetlaw10_FairFair_p134
      rw [fits_b _ (by omega) rules hr hc y hby, Option.bind_some, example_ok, Option.bind_some]
      cases hf : rfit rules y with
      | false => rfl
      | true =>
        simp only
        rw [Bool.not_true, cond_false, decide_eq_true (by omega), Bool.not_true, cond_false]
        have := fair_l 3000000000000 (by omega) y x b (by omega) (by omega) (fun q hq hlt => by
          rw [hyl] at hq ⊢
          exact hv.fair (rfit_mono _ _ rules) hby hf q hq hlt) 3000000000000 0 (by omega) (by omega)
        simpa only [Int.natCast_zero] using this

theorem plain_chargenetlaw10_FairFair (a0 : List Int) (a1 : List SRule) (a2 : List Int) (w0 : okVec (fun x : Int => (Lit.int .i64 x).wf = true) a0) (w1 : okVec okSRule a1) (w2 : okVec (fun x : Int => (Lit.int .i64 x).wf = true) a2) : ∃ F, chargenetlaw10_FairFair F a0 a1 a2 = some true := by
  refine ⟨3000000000000, ?_⟩
  unfold chargenetlaw10_FairFair chargenetlaw10_big
  rw [example_ok]
  simp only [Option.bind_some]
  by_cases h1 : 80 < (a0.length : Int)
  · rw [decide_eq_true h1]; rfl
  rw [decide_eq_false h1, cond_false, Option.bind_some]
  by_cases h2 : 24 < (a1.length : Int)
  · rw [decide_eq_true h2]; rfl
  rw [decide_eq_false h2, cond_false]
  by_cases h3 : (a2.length : Int) = (a0.length : Int)
  · rw [decide_eq_true h3, Bool.not_true, cond_false]
    obtain ⟨x, b, e1, e2⟩ := law_fill 3000000000000 (by omega) a1 (by omega) a0
    rw [e1, Option.bind_some]
    simp only
    cases b with
    | false => rfl
    | true =>
      obtain ⟨hc, hv⟩ := e2 rfl
      have h64 := hc.n64
      rw [Bool.not_true, cond_false]
      have := range_l a1 (by omega) hc hv true a2 (by omega) 3000000000000 0 (by omega) (by omega) (fun j hj => by omega)
      simpa only [Int.natCast_zero] using this
  · rw [decide_eq_false h3]; rfl
end Go.Proofs.Ythpblkclpfmbeaa.M
