/- The plain law of FairShare. -/
import Derived.Test.YthpblkclpfmbeaaPlainF
namespace Go.Proofs.Ythpblkclpfmbeaa.M
open Go Go.Proofs.Ythpblkclpfmbeaa.E Go.Proofs.Ythpblkclpfmbeaa.W
set_option linter.unusedVariables false
set_option linter.unusedSimpArgs false

theorem level_lr (F : Nat) {n : Nat} {caps : List Int} (hc : Caps n caps) (m : Int) (hm : 0 ≤ m ∧ m ≤ 9007199254740992) : ∀ (k i : Nat) (sum : Int), i ≤ n → n < k + i → 0 ≤ sum → sum ≤ 1099511627776 * i → chargenetref10_level_l9 caps m k sum (i : Int) = some (sum + lv (caps.drop i) m)
  | 0, i, sum, h1, h2, _, _ => by omega
  | k + 1, i, sum, h1, h2, h3, h4 => by
    have hcl := hc.len
    have h64 := hc.n64
    simp only [chargenetref10_level_l9, chargenetref10_level_b9, chargenetref10_level_p2]
    by_cases hi : i < n
    · have hci := hc.bd i hi
      have hmn : 0 ≤ mn m (caps.getD i 0) ∧ mn m (caps.getD i 0) ≤ 1099511627776 := by unfold mn; split <;> omega
      rw [decide_eq_true (by omega), cond_true, guard_pos (by omega), Int.toNat_natCast, wsucc i (by omega)]
      show chargenetref10_level_l9 caps m k (IntKind.wrap .i64 (sum + mn m (caps.getD i 0))) _ = _
      rw [Go.IntWalk.i64_in _ (by omega), level_lr F hc m hm k (i + 1) _ (by omega) (by omega) (by omega) (by omega),
        List.drop_eq_getElem_cons (by omega : i < caps.length), getD_get (by omega)]
      simp only [lv, List.map_cons, sl]
      congr 1; omega
    · rw [decide_eq_false (by omega), cond_false, List.drop_eq_nil_of_le (by omega)]
      simp [lv, sl]
theorem level_r (F : Nat) (hF : 100 ≤ F) {n : Nat} {caps : List Int} (hc : Caps n caps) (m : Int) (hm : 0 ≤ m ∧ m ≤ 9007199254740992) : chargenetref10_level F caps m = some (lv caps m) := by
  have := hc.n64
  have := level_lr F hc m hm F 0 0 (by omega) (by omega) (Int.le_refl _) (by omega)
  unfold chargenetref10_level
  simpa only [Int.natCast_zero, List.drop_zero, Int.zero_add] using this

theorem rest_r {n : Nat} {caps : List Int} (hc : Caps n caps) (m : Int) (hm : 0 ≤ m ∧ m ≤ 9007199254740992) : ∀ (k i : Nat) (rest : Int) (o : List Int), i ≤ n → n < k + i → -1000000000000000000 ≤ rest → rest ≤ 1000000000000000000 → o.length = i →
    chargenetref10_Share_l35 caps m k rest (i : Int) o = some (o ++ bump (caps.drop i) m rest, 0)
  | 0, i, rest, o, h1, h2, _, _, _ => by omega
  | k + 1, i, rest, o, h1, h2, h3, h4, ho => by
    have hcl := hc.len
    have h64 := hc.n64
    simp only [chargenetref10_Share_l35, chargenetref10_Share_b35, chargenetref10_Share_p13, chargenetref10_Share_p41]
    by_cases hi : i < n
    · have hci := hc.bd i hi
      have hmn : 0 ≤ mn m (caps.getD i 0) ∧ mn m (caps.getD i 0) ≤ 1099511627776 := by unfold mn; split <;> omega
      have hmf : (if caps.getD i 0 < m then caps.getD i 0 else m) = mn m (caps.getD i 0) := rfl
      have hdrop : caps.drop i = caps.getD i 0 :: caps.drop (i + 1) := by rw [List.drop_eq_getElem_cons (by omega), getD_get (by omega)]
      have hg : ∀ (v : Int) (X : Option (List Int × Int)), E.guard ((o.length + [v].length) * 8 ≤ 140737488355328 ∧ o.length + [v].length ≤ 140737488355328) X = X := fun v X => guard_pos (by simp; omega)
      rw [decide_eq_true (by omega), cond_true, guard_pos (by omega), guard_pos (by omega), Int.toNat_natCast, wsucc i (by omega), hdrop, bump]
      simp only [hg, hmf]
      by_cases hmc : m < caps.getD i 0
      · rw [decide_eq_true hmc, cond_true]
        by_cases hr : 0 < rest
        · rw [decide_eq_true hr, cond_true, Go.IntWalk.i64_in (mn m (caps.getD i 0) + 1) (by omega), Go.IntWalk.i64_in (rest - 1) (by omega),
            rest_r hc m hm k (i + 1) _ _ (by omega) (by omega) (by omega) (by omega) (by simp [ho]), if_pos ⟨hr, hmc⟩, List.append_assoc]
          rfl
        · rw [decide_eq_false hr, cond_false, rest_r hc m hm k (i + 1) _ _ (by omega) (by omega) h3 h4 (by simp [ho]), if_neg (fun hh => hr hh.1), List.append_assoc]
          rfl
      · rw [decide_eq_false hmc, cond_false, rest_r hc m hm k (i + 1) _ _ (by omega) (by omega) h3 h4 (by simp [ho]), if_neg (fun hh => hmc hh.2), List.append_assoc]
        rfl
    · rw [decide_eq_false (by omega), cond_false, List.drop_eq_nil_of_le (by omega), bump, List.append_nil]

theorem steps_r (F : Nat) (hF : 2000 ≤ F) {n : Nat} {caps : List Int} (hc : Caps n caps) (total : Int) (ht : 0 ≤ total ∧ total ≤ 100000000000000000) : ∀ (k : Nat) (j : Nat) (m : Int), 0 ≤ m → j ≤ 40 → j + 1 < k → m + 2 * 2 ^ j ≤ 4398046511104 → lv caps m ≤ total → total < lv caps (m + 2 * 2 ^ j) →
    ∃ l, chargenetref10_Share_l60 F total caps k m (2 ^ j) = some (l, 0) ∧ Sh caps total l
  | 0, j, m, _, _, h, _, _, _ => by omega
  | k + 1, j, m, h1, h2, h3, h4, h5, h6 => by
    have hcl := hc.len
    have h64 := hc.n64
    have hp : (0 : Int) < 2 ^ j := Int.pow_pos (by decide)
    have hle : (2 : Int) ^ j ≤ 2199023255552 := by omega
    simp only [chargenetref10_Share_l60, chargenetref10_Share_b60, chargenetref10_Share_p63]
    rw [decide_eq_true hp, cond_true, Go.IntWalk.i64_in (m + 2 ^ j) (by omega), level_r F (by omega) hc _ (by omega), Option.bind_some]
    -- what comes next
    have next : ∀ m' : Int, 0 ≤ m' → m' + 2 ^ j ≤ 4398046511104 → lv caps m' ≤ total → total < lv caps (m' + 2 ^ j) → ∃ l, chargenetref10_Share_l60 F total caps k m' (IntKind.wrap .i64 (Int.tdiv (2 ^ j) 2)) = some (l, 0) ∧ Sh caps total l := by
      intro m' g1 g2 g3 g4
      cases j with
      | zero =>
        have e0 : IntKind.wrap .i64 (Int.tdiv ((2 : Int) ^ 0) 2) = 0 := by decide
        rw [e0]
        obtain ⟨k, rfl⟩ : ∃ q, k = q + 1 := ⟨k - 1, by omega⟩
        have hlb := lv_bd hc m' g1
        simp only [chargenetref10_Share_l60, chargenetref10_Share_b60, chargenetref10_Share_p45]
        rw [decide_eq_false (by omega), cond_false, level_r F (by omega) hc _ (by omega), Option.bind_some, Go.IntWalk.i64_in (total - lv caps m') (by omega)]
        have := rest_r hc m' (by omega) F 0 (total - lv caps m') [] (by omega) (by omega) (by omega) (by omega) rfl
        simp only [Int.natCast_zero, List.nil_append, List.drop_zero] at this
        rw [this]
        exact ⟨_, rfl, .inr ⟨m', g1, g3, by simpa using g4, rfl⟩⟩
      | succ j =>
        have e1 : Int.tdiv ((2 : Int) ^ (j + 1)) 2 = 2 ^ j := by rw [Int.pow_succ, Int.mul_tdiv_cancel _ (by decide)]
        have e2 : (2 : Int) ^ (j + 1) = 2 * 2 ^ j := by rw [Int.pow_succ, Int.mul_comm]
        have hp' : (0 : Int) < 2 ^ j := Int.pow_pos (by decide)
        rw [e1, Go.IntWalk.i64_in (2 ^ j) (by omega)]
        rw [e2] at g2 g4
        exact steps_r F hF hc total ht k j m' g1 (by omega) (by omega) g2 g3 g4
    by_cases hl : lv caps (m + 2 ^ j) ≤ total
    · rw [decide_eq_true hl, cond_true]
      exact next _ (by omega) (by omega) hl (by rw [show m + 2 ^ j + 2 ^ j = m + 2 * 2 ^ j by omega]; exact h6)
    · rw [decide_eq_false hl, cond_false]
      exact next m h1 (by omega) h5 (by omega)

theorem share_r (F : Nat) (hF : 2000 ≤ F) {n : Nat} {caps : List Int} (hc : Caps n caps) (hR : chargenetref10_Right F caps = some 0) (total : Int) (h0 : 0 ≤ total) : ∃ l, chargenetref10_Share F total caps = some (l, 0) ∧ Sh caps total l := by
  have hcl := hc.len
  have h64 := hc.n64
  have hall : ∀ c ∈ caps, c ≤ 1099511627776 := fun c hm => (caps_mem hc c hm).2
  have hb := lv_bd hc 1099511627776 (by omega)
  unfold chargenetref10_Share
  rw [decide_eq_false (by omega), cond_false, hR, Option.bind_some, show (!decide ((0 : Int) = 0)) = false from rfl, cond_false, level_r F (by omega) hc _ (by omega), Option.bind_some]
  by_cases hl : lv caps 1099511627776 ≤ total
  · rw [decide_eq_true hl, cond_true, guard_pos (by simp; omega)]
    refine ⟨caps, rfl, .inl ⟨?_, rfl⟩⟩
    rw [← (lv_all _ caps hall).1]; exact hl
  · rw [decide_eq_false hl, cond_false]
    have := steps_r F hF hc total (by omega) F 40 0 (Int.le_refl _) (by omega) (by omega) (by decide) (by rw [lv_zero caps (fun c hm => (caps_mem hc c hm).1)]; exact h0) (by
      have := lv_mono 1099511627776 (0 + 2 * 2 ^ 40) (by decide) caps
      omega)
    rwa [show (2 : Int) ^ 40 = 1099511627776 by decide] at this

theorem plain_chargenetlaw10_FairShare (a0 : Int) (a1 : List Int) (w0 : (Lit.int .i64 a0).wf = true) (w1 : okVec (fun x : Int => (Lit.int .i64 x).wf = true) a1) : ∃ F, chargenetlaw10_FairShare F a0 a1 = some true := by
  refine ⟨3000000000000, ?_⟩
  unfold chargenetlaw10_FairShare
  rw [example_ok]
  simp only [Option.bind_some]
  by_cases h1 : 80 < (a1.length : Int)
  · rw [decide_eq_true h1]; rfl
  rw [decide_eq_false h1, cond_false]
  have nil : slices_Equal_int_int 3000000000000 ([] : List Int) [] = some true := by
    rw [equal_eq _ (by omega) [] [] (by simp)]; rfl
  by_cases h2 : a0 < 0
  · have f1 : fair_Share 3000000000000 a0 a1 = some ([], 2) := by
      unfold fair_Share; rw [decide_eq_true h2]; rfl
    have f2 : chargenetref10_Share 3000000000000 a0 a1 = some ([], 2) := by
      unfold chargenetref10_Share; rw [decide_eq_true h2]; rfl
    rw [f1, Option.bind_some, f2, Option.bind_some]
    simp only [decide_true, cond_true]
    rw [nil]; rfl
  obtain ⟨e, e1, e2, e3⟩ := both 3000000000000 (by omega) a1
  by_cases he : e = 0
  · subst he
    have hc := e3 rfl
    obtain ⟨l, hl, s1⟩ := share_any 3000000000000 (by omega) hc a0 (by omega)
    obtain ⟨l', hl', s2⟩ := share_r 3000000000000 (by omega) hc e2 a0 (by omega)
    obtain rfl := s1.unique s2
    have := hc.n64
    have := s1.len
    rw [hl, Option.bind_some, hl', Option.bind_some]
    simp only [decide_true, cond_true]
    rw [equal_eq _ (by omega) l l (by omega)]
    simp
  · have f1 : fair_Share 3000000000000 a0 a1 = some ([], e) := by
      unfold fair_Share
      rw [decide_eq_false h2, cond_false, e1, Option.bind_some, decide_eq_false he]; rfl
    have f2 : chargenetref10_Share 3000000000000 a0 a1 = some ([], e) := by
      unfold chargenetref10_Share
      rw [decide_eq_false h2, cond_false, e2, Option.bind_some, decide_eq_false he]; rfl
    rw [f1, Option.bind_some, f2, Option.bind_some]
    simp only [decide_true, cond_true]
    rw [nil]; rfl
end Go.Proofs.Ythpblkclpfmbeaa.M
