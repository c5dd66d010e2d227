/- Plain laws of chapter 10: the caps' check, equality, sums, Compare; the examples. -/
import Derived.Test.YthpblkclpfmbeaaPlainE
namespace Go.Proofs.Ythpblkclpfmbeaa.M
open Go Go.Proofs.Ythpblkclpfmbeaa.E Go.Proofs.Ythpblkclpfmbeaa.W
set_option linter.unusedVariables false
set_option linter.unusedSimpArgs false

/-! ### The check of caps -/
theorem both_l (caps : List Int) (hl : caps.length ≤ 64) : ∀ (k i : Nat), i ≤ caps.length → caps.length < k + i → (∀ j, j < i → 0 ≤ caps.getD j 0 ∧ caps.getD j 0 ≤ 1099511627776) →
    ∃ e, fair_check_l12 caps k (i : Int) = some e ∧ chargenetref10_Right_l14 caps k (i : Int) = some e ∧ (e = 0 → ∀ j, j < caps.length → 0 ≤ caps.getD j 0 ∧ caps.getD j 0 ≤ 1099511627776)
  | 0, i, h1, h2, _ => by omega
  | k + 1, i, h1, h2, h3 => by
    simp only [fair_check_l12, fair_check_b12, chargenetref10_Right_l14, chargenetref10_Right_b14]
    by_cases hi : i < caps.length
    · rw [decide_eq_true (by omega), cond_true, cond_true, guard_pos (by omega), guard_pos (by omega), guard_pos (by omega), Int.toNat_natCast, wsucc i (by omega)]
      by_cases c1 : caps.getD i 0 < 0
      · rw [decide_eq_true c1]; exact ⟨2, rfl, rfl, fun h => absurd h (by decide)⟩
      by_cases c2 : 1099511627776 < caps.getD i 0
      · rw [decide_eq_false c1, decide_eq_true c2]; exact ⟨2, rfl, rfl, fun h => absurd h (by decide)⟩
      rw [decide_eq_false c1, decide_eq_false c2]
      exact both_l caps hl k (i + 1) (by omega) (by omega) (fun j hj => by
        by_cases hji : j = i
        · subst hji; omega
        · exact h3 j (by omega))
    · rw [decide_eq_false (by omega)]
      exact ⟨0, rfl, rfl, fun _ j hj => h3 j (by omega)⟩
theorem both (F : Nat) (hF : 100 ≤ F) (caps : List Int) : ∃ e, fair_check F caps = some e ∧ chargenetref10_Right F caps = some e ∧ (e = 0 → Caps caps.length caps) := by
  unfold fair_check chargenetref10_Right
  by_cases h : (64 : Int) < (caps.length : Int)
  · rw [decide_eq_true h]; exact ⟨3, rfl, rfl, fun hh => absurd hh (by decide)⟩
  · rw [decide_eq_false h, cond_false, cond_false]
    obtain ⟨e, h1, h2, h3⟩ := both_l caps (by omega) F 0 (by omega) (by omega) (fun j hj => by omega)
    exact ⟨e, h1, h2, fun he => ⟨rfl, by omega, h3 he⟩⟩

/-! ### Equality -/
theorem equal_l (a b : List Int) (hl : a.length = b.length) (h8 : a.length ≤ 1000) : ∀ (k i : Nat), i ≤ a.length → a.length < k + i → slices_Equal_int_int_l12 a b k (i : Int) = some (decide (a.drop i = b.drop i))
  | 0, i, h1, h2 => by omega
  | k + 1, i, h1, h2 => by
    simp only [slices_Equal_int_int_l12, slices_Equal_int_int_b12, slices_Equal_int_int_p2]
    by_cases hi : i < a.length
    · have ha : a.drop i = a.getD i 0 :: a.drop (i + 1) := by rw [List.drop_eq_getElem_cons hi, getD_get hi]
      have hb : b.drop i = b.getD i 0 :: b.drop (i + 1) := by rw [List.drop_eq_getElem_cons (by omega), getD_get (by omega)]
      rw [decide_eq_true (by omega), cond_true, guard_pos (by omega), guard_pos (by omega), Int.toNat_natCast, wsucc i (by omega), ha, hb]
      by_cases hx : a.getD i 0 = b.getD i 0
      · rw [decide_eq_true hx, Bool.not_true, cond_false, equal_l a b hl h8 k (i + 1) (by omega) (by omega)]
        congr 1
        exact decide_eq_decide.2 ⟨fun h => by rw [hx, h], fun h => (List.cons.inj h).2⟩
      · rw [decide_eq_false hx, Bool.not_false, cond_true]
        congr 1
        exact (decide_eq_false (fun h => hx (List.cons.inj h).1)).symm
    · rw [decide_eq_false (by omega), cond_false, List.drop_eq_nil_of_le (by omega), List.drop_eq_nil_of_le (by omega)]
      rfl
theorem equal_eq (F : Nat) (hF : 2000 ≤ F) (a b : List Int) (h8 : a.length ≤ 1000) : slices_Equal_int_int F a b = some (decide (a = b)) := by
  unfold slices_Equal_int_int
  by_cases hl : a.length = b.length
  · rw [decide_eq_true (by omega), Bool.not_true, cond_false]
    have := equal_l a b hl h8 F 0 (by omega) (by omega)
    simpa only [Int.natCast_zero, List.drop_zero] using this
  · rw [decide_eq_false (by omega), Bool.not_false, cond_true]
    congr 1
    exact (decide_eq_false (fun h => hl (by rw [h]))).symm

/-! ### Sums -/
theorem sum_l (l : List Int) (q : Int) (hl : l.length ≤ 64) (h : ∀ j, j < l.length → 0 ≤ l.getD j 0 ∧ l.getD j 0 ≤ 1099511627776) : ∀ (k i : Nat) (n : Int), i ≤ l.length → l.length < k + i → 0 ≤ n → n ≤ 1099511627776 * i → n + sl (l.drop i) = sl l → chargenetlaw10_sum_1_l9 l q k n (i : Int) = some (decide (sl l ≤ q))
  | 0, i, n, h1, h2, _, _, _ => by omega
  | k + 1, i, n, h1, h2, h3, h4, h5 => by
    simp only [chargenetlaw10_sum_1_l9, chargenetlaw10_sum_1_b9, chargenetlaw10_sum_1_p2]
    by_cases hi : i < l.length
    · have hx := h i hi
      have hd : l.drop i = l.getD i 0 :: l.drop (i + 1) := by rw [List.drop_eq_getElem_cons hi, getD_get hi]
      rw [hd, sl] at h5
      rw [decide_eq_true (by omega), cond_true, guard_pos (by omega), Int.toNat_natCast, wsucc i (by omega), Go.IntWalk.i64_in (n + l.getD i 0) (by omega)]
      exact sum_l l q hl h k (i + 1) _ (by omega) (by omega) (by omega) (by omega) (by omega)
    · rw [List.drop_eq_nil_of_le (by omega), sl] at h5
      rw [decide_eq_false (by omega), cond_false, show n = sl l by omega]
theorem sum_eq (F : Nat) (hF : 100 ≤ F) (l : List Int) (q : Int) (hl : l.length ≤ 64) (h : ∀ j, j < l.length → 0 ≤ l.getD j 0 ∧ l.getD j 0 ≤ 1099511627776) : chargenetlaw10_sum_1 F l q = some (decide (sl l ≤ q)) := by
  have := sum_l l q hl h F 0 0 (by omega) (by omega) (by omega) (by omega) (by simp)
  unfold chargenetlaw10_sum_1
  simpa only [Int.natCast_zero] using this
theorem box_cap {n : Nat} {caps l : List Int} (hc : Caps n caps) (hb : Box n caps l) : l.length ≤ 64 ∧ ∀ j, j < l.length → 0 ≤ l.getD j 0 ∧ l.getD j 0 ≤ 1099511627776 := by
  have := hc.n64
  have hl := hb.len
  refine ⟨by omega, fun j hj => ?_⟩
  have := hb.bd j (by omega)
  have := hc.bd j (by omega)
  omega
theorem fill_sum (F : Nat) (hF : 2000000000000 ≤ F) {n : Nat} {caps : List Int} (hc : Caps n caps) (total : Int) (h0 : 0 ≤ total) : ∃ l, fair_Fill_f1_34 F caps total = some (l, 0) ∧ Sh caps total l :=
  Fillf1_34.fill_share hF hc total total h0 (fun l hb => sum_eq F (by omega) l total (box_cap hc hb).1 (box_cap hc hb).2)
theorem share_any (F : Nat) (hF : 2000000000000 ≤ F) {n : Nat} {caps : List Int} (hc : Caps n caps) (total : Int) (h0 : 0 ≤ total) : ∃ l, fair_Share F total caps = some (l, 0) ∧ Sh caps total l := by
  by_cases ht : total ≤ 100000000000000000
  · exact share_eq F hF hc total ⟨h0, ht⟩
  · have hcl := hc.len
    have h64 := hc.n64
    have hb := lv_bd hc 1099511627776 (by omega)
    have hall : ∀ c ∈ caps, c ≤ 1099511627776 := fun c hm => (caps_mem hc c hm).2
    unfold fair_Share
    rw [decide_eq_false (by omega), cond_false, check_ok F (by omega) hc, Option.bind_some, show (!decide ((0 : Int) = 0)) = false from rfl, cond_false, below_eq F (by omega) hc _ (by omega), Option.bind_some, decide_eq_true (by omega), cond_true]
    unfold slices_Clone_int_int
    rw [guard_pos (by simp; omega), Option.bind_some]
    refine ⟨caps, rfl, .inl ⟨?_, rfl⟩⟩
    rw [← (lv_all _ caps hall).1]; omega

/-! ### Compare -/
theorem sorted_eq : ∀ (a b : List Int), a.Perm b → a.Pairwise (· ≤ ·) → b.Pairwise (· ≤ ·) → a = b
  | [], b, h, _, _ => (List.nil_perm.1 h).symm
  | x :: a, [], h, _, _ => absurd h.length_eq (by simp)
  | x :: a, y :: b, h, ha, hb => by
    obtain ⟨a1, a2⟩ := List.pairwise_cons.1 ha
    obtain ⟨b1, b2⟩ := List.pairwise_cons.1 hb
    have hxy : x = y := by
      have h1 : x ∈ y :: b := h.mem_iff.1 (List.mem_cons_self ..)
      have h2 : y ∈ x :: a := h.mem_iff.2 (List.mem_cons_self ..)
      rcases List.mem_cons.1 h1 with h1 | h1
      · exact h1
      · rcases List.mem_cons.1 h2 with h2 | h2
        · exact h2.symm
        · have := a1 y h2; have := b1 x h1; omega
    subst hxy
    rw [sorted_eq a b (List.Perm.cons_inv h) a2 b2]
def cmpL : List Int → List Int → Int
  | [], [] => 0
  | [], _ :: _ => -1
  | _ :: _, [] => 1
  | x :: a, y :: b => if x < y then -1 else if y < x then 1 else cmpL a b
theorem cmp_l (F : Nat) (a b : List Int) (h8 : a.length ≤ 1000 ∧ b.length ≤ 1000) : ∀ (k i : Nat), i ≤ a.length → i ≤ b.length → a.length < k + i → slices_Compare_int_int_l18 F a b k (i : Int) = some (cmpL (a.drop i) (b.drop i))
  | 0, i, h1, _, h2 => by omega
  | k + 1, i, h1, hb, h2 => by
    simp only [slices_Compare_int_int_l18, slices_Compare_int_int_b18, slices_Compare_int_int_p2]
    by_cases hi : i < a.length
    · have ha : a.drop i = a.getD i 0 :: a.drop (i + 1) := by rw [List.drop_eq_getElem_cons hi, getD_get hi]
      rw [decide_eq_true (by omega), cond_true, guard_pos (by omega)]
      by_cases hib : b.length ≤ i
      · rw [decide_eq_true (by omega), cond_true, ha, List.drop_eq_nil_of_le hib]; rfl
      · have hbd : b.drop i = b.getD i 0 :: b.drop (i + 1) := by rw [List.drop_eq_getElem_cons (by omega), getD_get (by omega)]
        rw [decide_eq_false (by omega), cond_false, guard_pos (by omega), Int.toNat_natCast, wsucc i (by omega), ha, hbd, cmp_l F a b h8 k (i + 1) (by omega) (by omega) (by omega)]
        unfold cmp_Compare_int cmp_isNaN_int
        simp only [decide_true, Bool.not_true, Option.bind_some, cond_false]
        rw [cmpL]
        by_cases c1 : a.getD i 0 < b.getD i 0
        · rw [decide_eq_true c1, if_pos c1]; rfl
        · by_cases c2 : b.getD i 0 < a.getD i 0
          · rw [decide_eq_false c1, decide_eq_true c2, if_neg c1, if_pos c2]; rfl
          · rw [decide_eq_false c1, decide_eq_false c2, if_neg c1, if_neg c2]; rfl
    · rw [decide_eq_false (by omega), cond_false, List.drop_eq_nil_of_le (by omega)]
      by_cases hib : a.length < b.length
      · rw [decide_eq_true (by omega), List.drop_eq_getElem_cons (by omega : i < b.length)]; rfl
      · rw [decide_eq_false (by omega), List.drop_eq_nil_of_le (by omega)]; rfl
theorem compare_eq (F : Nat) (hF : 2000 ≤ F) (a b : List Int) (ha : a.length ≤ 1000) (hb : b.length ≤ 1000) : fair_Compare F a b = some (cmpL (sortI a) (sortI b)) := by
  have hs : ∀ l : List Int, l.length ≤ 1000 → slices_Sorted_int_f0_38 F l = some (sortI l) := by
    intro l hl
    unfold slices_Sorted_int_f0_38 slices_Collect_int_f0_38_own slices_AppendSeq_int_int_f1_38_own slices_Sort_int_int
    rw [guard_pos (by omega), Option.bind_some, Option.bind_some, guard_pos (by omega), Option.bind_some, guard_pos (sortI_len l)]
  unfold fair_Compare slices_Values_int_int
  rw [Option.bind_some, hs a ha, Option.bind_some, Option.bind_some, hs b hb, Option.bind_some]
  have hla := sortI_len a
  have hlb := sortI_len b
  have := cmp_l F (sortI a) (sortI b) ⟨by omega, by omega⟩ F 0 (by omega) (by omega) (by omega)
  unfold slices_Compare_int_int
  simp only [Int.natCast_zero, List.drop_zero] at this
  rw [this, Option.bind_some]
theorem cmpL_neg : ∀ a b : List Int, cmpL b a = - cmpL a b
  | [], [] => rfl
  | [], _ :: _ => rfl
  | _ :: _, [] => rfl
  | x :: a, y :: b => by
    rw [cmpL, cmpL, cmpL_neg a b]
    by_cases c1 : x < y
    · have c2 : ¬ y < x := by omega
      simp [c1, c2]
    · by_cases c2 : y < x
      · simp [c1, c2]
      · simp [c1, c2]

/-! ### The examples -/
def FF : Nat := 3000000000000
theorem example_ok : chargenetlaw10_exampleHolds 3000000000000 = some true := by
  have hc : Caps 3 ([10, 10, 3] : List Int) := ⟨rfl, by decide, fun i hi => by
    match i, hi with
    | 0, _ => exact ⟨by decide, by decide⟩
    | 1, _ => exact ⟨by decide, by decide⟩
    | 2, _ => exact ⟨by decide, by decide⟩⟩
  have s16 : Sh ([10, 10, 3] : List Int) 16 [7, 6, 3] := .inr ⟨6, by decide, by decide, by decide, by decide⟩
  have s100 : Sh ([10, 10, 3] : List Int) 100 [10, 10, 3] := .inl ⟨by decide, rfl⟩
  obtain ⟨l1, h1, t1⟩ := fill_sum 3000000000000 (by omega) hc 16 (by decide)
  obtain ⟨l2, h2, t2⟩ := share_any 3000000000000 (by omega) hc 16 (by decide)
  obtain ⟨l3, h3, t3⟩ := share_any 3000000000000 (by omega) hc 100 (by decide)
  obtain rfl := t1.unique s16
  obtain rfl := t2.unique s16
  obtain rfl := t3.unique s100
  have h4 : fair_Fill_f1_r21 3000000000000 [5, 5] = some ([2, 4], 0) := by decide +kernel
  have h5 : fair_Compare 3000000000000 [7, 6, 3] [8, 5, 3] = some 1 := by
    rw [compare_eq _ (by omega) _ _ (by decide) (by decide)]; rfl
  have e : ∀ a b : List Int, a.length ≤ 1000 → slices_Equal_int_int 3000000000000 a b = some (decide (a = b)) := fun a b h => equal_eq _ (by omega) a b h
  unfold chargenetlaw10_exampleHolds chargenetlaw10_sum fair_Fill_f1_nil
  rw [Option.bind_some, h1, Option.bind_some, h2, Option.bind_some, h3, Option.bind_some, Option.bind_some, h4, Option.bind_some]
  simp only
  rw [e _ _ (by decide), e _ _ (by decide), e _ _ (by decide), h5]
  rfl
end Go.Proofs.Ythpblkclpfmbeaa.M
