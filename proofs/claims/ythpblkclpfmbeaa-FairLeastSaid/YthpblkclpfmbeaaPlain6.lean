/- The plain law of FairLeast. -/
import Derived.Test.YthpblkclpfmbeaaPlainI
namespace Go.Proofs.Ythpblkclpfmbeaa.M
open Go Go.Proofs.Ythpblkclpfmbeaa.E Go.Proofs.Ythpblkclpfmbeaa.W
set_option linter.unusedVariables false
set_option linter.unusedSimpArgs false
theorem least_l (x y : List Int) (b : Bool) (hl : x.length = y.length) (h8 : y.length ≤ 64) (h : ∀ j, j < y.length → y.getD j 0 ≤ x.getD j 0) : ∀ (k i : Nat), i ≤ y.length → y.length < k + i → chargenetlaw10_FairLeast_l33 (x, b) y k (i : Int) = some true
  | 0, i, h1, h2 => by omega
  | k + 1, i, h1, h2 => by
    simp only [chargenetlaw10_FairLeast_l33, chargenetlaw10_FairLeast_b33, chargenetlaw10_FairLeast_p23]
    by_cases hi : i < y.length
    · have := h i hi
      rw [decide_eq_true (by omega), cond_true, guard_pos (by omega), guard_pos (by omega), Int.toNat_natCast, decide_eq_false (by omega), cond_false, wsucc i (by omega)]
      exact least_l x y b hl h8 h k (i + 1) (by omega) (by omega)
    · rw [decide_eq_false (by omega), cond_false]
theorem p38_eq (F : Nat) (hF : 2000000000000 ≤ F) (rules : List SRule) (hr : rules.length ≤ 24) {caps : List Int} (hc : Caps caps.length caps) {x : List Int} (hv : FairV caps.length caps (rfit rules) x) (b : Bool) (d : Int) (hd : 0 ≤ d) (y : List Int) (hyl : y.length = caps.length) (hy : ∀ j, j < caps.length → y.getD j 0 = mn d (caps.getD j 0)) :
    chargenetlaw10_FairLeast_p38 F caps rules (x, b) y = some true := by
  have hxl := hv.1.len
  have h64 := hc.n64
  have hby : Box caps.length caps y := ⟨hyl, fun i hi => by
    rw [hy i hi]; have := hc.bd i hi; unfold mn; split <;> omega⟩
  unfold chargenetlaw10_FairLeast_p38
  simp only
  rw [decide_eq_true (by omega), Bool.not_true, cond_false, fits_b F (by omega) rules hr hc y hby, Option.bind_some]
  cases hf : rfit rules y with
  | false => rfl
  | true =>
    rw [Bool.not_true, cond_false]
    have := least_l x y b (by omega) (by omega) (fun j hj => by
      rw [hyl] at hj
      by_cases hlt : x.getD j 0 < y.getD j 0
      · exfalso
        obtain ⟨q, hq, h1, h2⟩ := hv.fair (rfit_mono _ _ rules) hby hf j hj hlt
        have hxq := hv.1.bd q hq
        rw [hy q hq] at h1 h2
        rw [hy j hj] at hlt
        have := mn_le d (caps.getD j 0)
        have := mn_le d (caps.getD q 0)
        omega
      · omega) F 0 (by omega) (by omega)
    simpa only [Int.natCast_zero] using this
theorem level_y (F : Nat) (hF : 2000000000000 ≤ F) (rules : List SRule) (hr : rules.length ≤ 24) {caps : List Int} (hc : Caps caps.length caps) {x : List Int} (hv : FairV caps.length caps (rfit rules) x) (b : Bool) (d : Int) (hd : 0 ≤ d) : ∀ (k i : Nat) (o : List Int), i ≤ caps.length → caps.length < k + i → o.length = caps.length → (∀ j, j < i → o.getD j 0 = mn d (caps.getD j 0)) →
    chargenetlaw10_FairLeast_l47 F caps rules d (x, b) k (i : Int) o = some true
  | 0, i, o, h1, h2, _, _ => by omega
  | k + 1, i, o, h1, h2, h3, h4 => by
    have h64 := hc.n64
    simp only [chargenetlaw10_FairLeast_l47, chargenetlaw10_FairLeast_b47, List.length_replicate, Int.toNat_natCast]
    by_cases hi : i < caps.length
    · rw [decide_eq_true (by omega), cond_true, guard_pos (by omega), guard_pos (by omega), wsucc i (by omega)]
      refine level_y F hF rules hr hc hv b d hd k (i + 1) _ (by omega) (by omega) (by simpa using h3) (fun j hj => ?_)
      rw [getD_set]
      by_cases hji : j = i
      · subst hji; rw [if_pos ⟨rfl, by omega⟩]; rfl
      · rw [if_neg (fun hh => hji hh.1)]; exact h4 j (by omega)
    · rw [decide_eq_false (by omega), cond_false]
      exact p38_eq F hF rules hr hc hv b d hd o h3 (fun j hj => h4 j (by omega))

theorem plain_chargenetlaw10_FairLeast (a0 : List Int) (a1 : List SRule) (a2 : Int) (w0 : okVec (fun x : Int => (Lit.int .i64 x).wf = true) a0) (w1 : okVec okSRule a1) (w2 : (Lit.int .i64 a2).wf = true) : ∃ F, chargenetlaw10_FairLeast F a0 a1 a2 = some true := by
  refine ⟨3000000000000, ?_⟩
  unfold chargenetlaw10_FairLeast chargenetlaw10_big
  rw [example_ok]
  simp only [Option.bind_some]
  by_cases h1 : 80 < (a0.length : Int)
  · rw [decide_eq_true h1]; rfl
  rw [decide_eq_false h1, cond_false, Option.bind_some]
  by_cases h2 : 24 < (a1.length : Int)
  · rw [decide_eq_true h2]; rfl
  rw [decide_eq_false h2, cond_false]
  by_cases h3 : a2 < 0
  · rw [decide_eq_true h3]; rfl
  rw [decide_eq_false h3, cond_false]
  by_cases h4 : 1099511627776 < a2
  · rw [decide_eq_true h4]; rfl
  rw [decide_eq_false h4, cond_false]
  obtain ⟨x, b, e1, e2⟩ := law_fill 3000000000000 (by omega) a1 (by omega) a0
  rw [e1, Option.bind_some]
  simp only
  cases b with
  | false => rfl
  | true =>
    obtain ⟨hc, hv⟩ := e2 rfl
    have h64 := hc.n64
    rw [Bool.not_true, cond_false, guard_pos (by omega), Int.toNat_natCast]
    have := level_y 3000000000000 (by omega) a1 (by omega) hc hv true a2 (by omega) 3000000000000 0 (List.replicate a0.length 0) (by omega) (by omega) (by simp) (fun j hj => by omega)
    simpa only [Int.natCast_zero] using this
end Go.Proofs.Ythpblkclpfmbeaa.M
