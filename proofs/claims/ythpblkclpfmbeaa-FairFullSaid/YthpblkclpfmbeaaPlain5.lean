/- The plain law of FairFull. -/
import Derived.Test.YthpblkclpfmbeaaPlainI
namespace Go.Proofs.Ythpblkclpfmbeaa.M
open Go Go.Proofs.Ythpblkclpfmbeaa.E Go.Proofs.Ythpblkclpfmbeaa.W
set_option linter.unusedVariables false
set_option linter.unusedSimpArgs false
theorem full_l (F : Nat) (hF : 2000000000000 ≤ F) (rules : List SRule) (hr : rules.length ≤ 24) {caps : List Int} (hc : Caps caps.length caps) {x : List Int} (hv : FairV caps.length caps (rfit rules) x) (b : Bool) : ∀ (k i : Nat), i ≤ caps.length → caps.length < k + i → chargenetlaw10_FairFull_l51 F caps rules (x, b) k (i : Int) = some true
  | 0, i, h1, h2 => by omega
  | k + 1, i, h1, h2 => by
    have h64 := hc.n64
    have hxl := hv.1.len
    simp only [chargenetlaw10_FairFull_l51, chargenetlaw10_FairFull_b51, chargenetlaw10_FairFull_p53, chargenetlaw10_FairFull_p15]
    by_cases hi : i < caps.length
    · have hxi := hv.1.bd i hi
      have hci := hc.bd i hi
      unfold slices_Clone_int_int_own
      rw [decide_eq_true (by omega), cond_true, guard_pos (by omega), Int.toNat_natCast, decide_eq_false (by omega), cond_false, guard_pos (by omega), guard_pos (by omega), decide_eq_false (by omega), cond_false, guard_pos (by simp; omega), List.nil_append, Option.bind_some,
        guard_pos (by omega), guard_pos (by omega), guard_pos (by omega), guard_pos (by omega), wsucc i (by omega), full_l F hF rules hr hc hv b k (i + 1) (by omega) (by omega)]
      by_cases hlt : x.getD i 0 < caps.getD i 0
      · rw [decide_eq_true hlt, cond_true, Go.IntWalk.i64_in (x.getD i 0 + 1) (by omega), fits_b F (by omega) rules hr hc _ (set_box hv.1 i hlt), Option.bind_some, hv.most (rfit_mono _ _ rules) i hi hlt, cond_false]
      · rw [decide_eq_false hlt, cond_false]
    · rw [decide_eq_false (by omega), cond_false]

theorem plain_chargenetlaw10_FairFull (a0 : List Int) (a1 : List SRule) (w0 : okVec (fun x : Int => (Lit.int .i64 x).wf = true) a0) (w1 : okVec okSRule a1) : ∃ F, chargenetlaw10_FairFull F a0 a1 = some true := by
  refine ⟨3000000000000, ?_⟩
  unfold chargenetlaw10_FairFull chargenetlaw10_big
  rw [example_ok]
  simp only [Option.bind_some]
  by_cases h1 : 80 < (a0.length : Int)
  · rw [decide_eq_true h1]; rfl
  rw [decide_eq_false h1, cond_false, Option.bind_some]
  by_cases h2 : 24 < (a1.length : Int)
  · rw [decide_eq_true h2]; rfl
  rw [decide_eq_false h2, cond_false]
  obtain ⟨x, b, e1, e2⟩ := law_fill 3000000000000 (by omega) a1 (by omega) a0
  rw [e1, Option.bind_some]
  simp only
  cases b with
  | false => rfl
  | true =>
    obtain ⟨hc, hv⟩ := e2 rfl
    have hxl := hv.1.len
    rw [Bool.not_true, cond_false, decide_eq_true (by omega), Bool.not_true, cond_false, fits_b _ (by omega) a1 (by omega) hc x hv.1, Option.bind_some, hv.2.1, Bool.not_true, cond_false]
    have := full_l 3000000000000 (by omega) a1 (by omega) hc hv true 3000000000000 0 (by omega) (by have := hc.n64; omega)
    simpa only [Int.natCast_zero] using this
end Go.Proofs.Ythpblkclpfmbeaa.M
