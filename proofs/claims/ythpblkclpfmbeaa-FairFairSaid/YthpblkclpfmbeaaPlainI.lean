/- Plain laws of chapter 10: the rules, and Fill for them. -/
import Derived.Test.YthpblkclpfmbeaaPlainF
import Derived.Test.YthpblkclpfmbeaaPlainG
import Derived.Test.YthpblkclpfmbeaaPlainH
namespace Go.Proofs.Ythpblkclpfmbeaa.M
open Go Go.Proofs.Ythpblkclpfmbeaa.E Go.Proofs.Ythpblkclpfmbeaa.W
set_option linter.unusedVariables false
set_option linter.unusedSimpArgs false

def bitB (mask : Int) (k : Nat) : Bool := decide (iAnd .u64 (mask / 2 ^ min ((k : Int)).toNat (IntKind.bits .u64)) 1 = 1)
/-- The sum of the elements from the k-th on that a mask names. -/
def ms (mask : Int) : Nat → List Int → Int
  | _, [] => 0
  | k, x :: l => (bif bitB mask k then x else 0) + ms mask (k + 1) l
def rfit (rules : List SRule) (l : List Int) : Bool := rules.all fun r => decide (ms r.Mask 0 l ≤ r.Most)
theorem ms_mono (mask : Int) : ∀ (l l' : List Int) (k : Nat), l.length = l'.length → (∀ i, i < l.length → l.getD i 0 ≤ l'.getD i 0) → ms mask k l ≤ ms mask k l'
  | [], [], _, _, _ => Int.le_refl _
  | x :: l, y :: l', k, hl, h => by
    have h0 := h 0 (by simp)
    have h1 := ms_mono mask l l' (k + 1) (by simpa using hl) (fun i hi => by simpa using h (i + 1) (by simpa using hi))
    simp only [List.getD_cons_zero] at h0
    simp only [ms]
    cases bitB mask k
    · simp only [cond_false]; omega
    · simp only [cond_true]; omega
  | [], _ :: _, _, hl, _ => by simp at hl
  | _ :: _, [], _, hl, _ => by simp at hl
theorem rfit_mono (n : Nat) (caps : List Int) (rules : List SRule) : Mono n caps (rfit rules) := by
  intro l l' h1 h2 h3 h4
  unfold rfit at *
  rw [List.all_eq_true] at *
  intro r hr
  have h5 := of_decide_eq_true (h4 r hr)
  have h6 := ms_mono r.Mask l l' 0 (by rw [h1.len, h2.len]) (fun i hi => h3 i (by rw [← h1.len]; exact hi))
  exact decide_eq_true (by omega)

theorem rule_l (rules : List SRule) (hr : rules.length ≤ 24) (l : List Int) (hl : l.length ≤ 64) (h : ∀ j, j < l.length → 0 ≤ l.getD j 0 ∧ l.getD j 0 ≤ 1099511627776) (i : Nat) (hi : i < rules.length) (kl : Int → Option Bool) : ∀ (k j : Nat) (s : Int), j ≤ l.length → l.length < k + j → 0 ≤ s → s ≤ 1099511627776 * j →
    chargenetref10_Rules_Fits_l83 rules l (i : Int) kl k s (j : Int) = bif decide ((rules.getD i dSRule).Most < s + ms (rules.getD i dSRule).Mask j (l.drop j)) then some false else kl ((i + 1 : Nat) : Int)
  | 0, j, s, h1, h2, _, _ => by omega
  | k + 1, j, s, h1, h2, h3, h4 => by
    simp only [chargenetref10_Rules_Fits_l83, chargenetref10_Rules_Fits_b83, chargenetref10_Rules_Fits_p86, chargenetref10_Rules_Fits_p67, chargenetref10_Rules_Fits_p63]
    by_cases hj : j < l.length
    · have hx := h j hj
      have hd : l.drop j = l.getD j 0 :: l.drop (j + 1) := by rw [List.drop_eq_getElem_cons hj, getD_get hj]
      rw [decide_eq_true (by omega), cond_true, guard_pos (by omega), guard_pos (by omega), guard_pos (by omega), wsucc j (by omega), hd, ms]
      have hb : decide (iAnd .u64 ((rules.getD ((i : Int)).toNat dSRule).Mask / 2 ^ min ((j : Int)).toNat (IntKind.bits .u64)) 1 = 1) = bitB (rules.getD i dSRule).Mask j := by
        rw [Int.toNat_natCast i]; rfl
      rw [hb]
      cases bitB (rules.getD i dSRule).Mask j with
      | true =>
        simp only [cond_true]
        rw [Int.toNat_natCast, Go.IntWalk.i64_in (s + l.getD j 0) (by omega), rule_l rules hr l hl h i hi kl k (j + 1) _ (by omega) (by omega) (by omega) (by omega), Int.add_assoc]
      | false =>
        simp only [cond_false]
        rw [rule_l rules hr l hl h i hi kl k (j + 1) _ (by omega) (by omega) (by omega) (by omega)]
        simp only [Int.zero_add]
    · rw [decide_eq_false (by omega), cond_false, guard_pos (by omega), List.drop_eq_nil_of_le (by omega), ms, Int.add_zero, Int.toNat_natCast, wsucc i (by omega)]

theorem rules_l (F : Nat) (hF : 2000 ≤ F) (rules : List SRule) (hr : rules.length ≤ 24) (l : List Int) (hl : l.length ≤ 64) (h : ∀ j, j < l.length → 0 ≤ l.getD j 0 ∧ l.getD j 0 ≤ 1099511627776) : ∀ (k i : Nat), i ≤ rules.length → rules.length < k + i → chargenetref10_Rules_Fits_l61 F rules l k (i : Int) = some (rfit (rules.drop i) l)
  | 0, i, h1, h2 => by omega
  | k + 1, i, h1, h2 => by
    simp only [chargenetref10_Rules_Fits_l61, chargenetref10_Rules_Fits_b61, chargenetref10_Rules_Fits_p1]
    by_cases hi : i < rules.length
    · have hd : rules.drop i = rules.getD i dSRule :: rules.drop (i + 1) := by rw [List.drop_eq_getElem_cons hi, getD_get hi]
      have := rule_l rules hr l hl h i hi (fun i_31 => chargenetref10_Rules_Fits_l61 F rules l k i_31) F 0 0 (by omega) (by omega) (by omega) (by omega)
      simp only [Int.natCast_zero, List.drop_zero, Int.zero_add] at this
      rw [decide_eq_true (by omega), cond_true, this, rules_l F hF rules hr l hl h k (i + 1) (by omega) (by omega), hd]
      simp only [rfit, List.all_cons]
      by_cases hq : (rules.getD i dSRule).Most < ms (rules.getD i dSRule).Mask 0 l
      · rw [decide_eq_true hq, decide_eq_false (by omega)]; rfl
      · rw [decide_eq_false hq, decide_eq_true (by omega)]; rfl
    · rw [decide_eq_false (by omega), cond_false, List.drop_eq_nil_of_le (by omega)]; rfl
theorem fits_r (F : Nat) (hF : 2000 ≤ F) (rules : List SRule) (hr : rules.length ≤ 24) (l : List Int) (hl : l.length ≤ 64) (h : ∀ j, j < l.length → 0 ≤ l.getD j 0 ∧ l.getD j 0 ≤ 1099511627776) : chargenetref10_Rules_Fits F rules l = some (rfit rules l) := by
  have := rules_l F hF rules hr l hl h F 0 (by omega) (by omega)
  unfold chargenetref10_Rules_Fits
  simpa only [Int.natCast_zero, List.drop_zero] using this
theorem fits_b (F : Nat) (hF : 2000 ≤ F) (rules : List SRule) (hr : rules.length ≤ 24) {n : Nat} {caps : List Int} (hc : Caps n caps) (l : List Int) (hb : Box n caps l) : chargenetref10_Rules_Fits F rules l = some (rfit rules l) :=
  fits_r F hF rules hr l (box_cap hc hb).1 (box_cap hc hb).2

/-- What the law's fill returns: nothing to show, or the fair vector. -/
theorem law_fill (F : Nat) (hF : 2000000000000 ≤ F) (rules : List SRule) (hr : rules.length ≤ 24) (caps : List Int) : ∃ x b, chargenetlaw10_fill_f1_1000017 F caps rules = some (x, b) ∧ (b = true → Caps caps.length caps ∧ FairV caps.length caps (rfit rules) x) := by
  unfold chargenetlaw10_fill_f1_1000017
  obtain ⟨e, e1, e2, e3⟩ := both F (by omega) caps
  by_cases he : e = 0
  · subst he
    have hc := e3 rfl
    have h64 := hc.n64
    have hz := box_zero hc
    have hfz := fits_b F (by omega) rules hr hc _ hz
    rcases Fillf1_1000017.fill_eq hF hc rules (fit := rfit rules) (fun l hb => fits_b F (by omega) rules hr hc l hb) (FI caps.length caps (rfit rules)) (FairV caps.length caps (rfit rules)) (fun t x act h => by obtain ⟨⟨lam, _, hfm⟩, _⟩ := h; exact ⟨hfm.box, hfm.alen⟩)
      (fun t x act d htn hI hfar => fm_step hc (rfit rules) t x act d htn hI hfar) (fun x act h => fm_end (rfit rules) x act h) (fun h => fm_start hc (rfit rules) h) with ⟨h1, h2⟩ | ⟨h1, r, h2, h3⟩
    · rw [h2, Option.bind_some]
      simp only [decide_true, cond_true]
      rw [guard_pos (by omega), Int.toNat_natCast, hfz, Option.bind_some, h1]
      exact ⟨_, _, rfl, fun h => by cases h⟩
    · rw [h2, Option.bind_some]
      simp only [decide_true, cond_true]
      rw [guard_pos (by omega), Int.toNat_natCast, hfz, Option.bind_some]
      exact ⟨_, _, rfl, fun _ => ⟨hc, h3⟩⟩
  · have f2 : fair_Fill_f1_1000017 F caps rules = some ([], e) := by
      unfold fair_Fill_f1_1000017
      rw [e1, Option.bind_some, decide_eq_false he]; rfl
    rw [f2, Option.bind_some]
    simp only
    rw [decide_eq_false he, cond_false]
    exact ⟨_, _, rfl, fun h => by cases h⟩
end Go.Proofs.Ythpblkclpfmbeaa.M
