/- Plain laws of chapter 49: what the reference says is owed; small cases. -/
import Derived.Test.YtoncfkdgddfnlaaPlainL
namespace Go.Proofs.Ytoncfkdgddfnlaa.M
open Go Go.Proofs.Ytoncfkdgddfnlaa.E Go.Proofs.Ytoncfkdgddfnlaa.W
set_option linter.unusedVariables false
set_option linter.unusedSimpArgs false
theorem wi64 (x : Int) (h : -9223372036854775808 ≤ x ∧ x ≤ 9223372036854775807) : IntKind.wrap .i64 x = x := Go.IntWalk.i64_in _ (by omega)
theorem iAnd_32 (m : Int) : iAnd .i64 m 4294967295 = m % 4294967296 := by
 unfold iAnd
 have e1 : (BitVec.ofInt (IntKind.bits .i64) m).toNat = (m % 18446744073709551616).toNat := by
  show (BitVec.ofInt 64 m).toNat = _
  rw [BitVec.toNat_ofInt]; rfl
 have e2 : (BitVec.ofInt (IntKind.bits .i64) (4294967295 : Int)).toNat = 2 ^ 32 - 1 := by decide
 rw [BitVec.toNat_and, e1, e2, Nat.and_two_pow_sub_one_eq_mod]
 have : (((m % 18446744073709551616).toNat % 2 ^ 32 : Nat) : Int) = m % 4294967296 := by omega
 rw [this, Go.IntWalk.i64_in _ (by omega)]
theorem shr_32 (m : Int) : m / 2 ^ min (32 : Int).toNat (IntKind.bits .i64) = m / 4294967296 := by rfl
theorem shl_32 (m : Int) : m * 2 ^ min (32 : Int).toNat (IntKind.bits .i64) = m * 4294967296 := by rfl
theorem p14_eq (S high low : Int) (h1 : -1000000000000 ≤ high ∧ high ≤ 1000000000000) (h2 : 0 ≤ low ∧ low ≤ 1000000000000) (h : high * 4294967296 + low = S) : chargenetref49_Owed_p14 high low = some (sumE S) := by
 unfold chargenetref49_Owed_p14 sumE
 simp only [shr_32, shl_32, iAnd_32]
 rw [wi64 (high + low / 4294967296) (by omega)]
 by_cases q1 : high + low / 4294967296 < -2147483648
 ·rw [decide_eq_true q1, cond_true, if_neg (by omega)]
 ·rw [decide_eq_false q1, cond_false]
  by_cases q2 : 2147483648 ≤ high + low / 4294967296
  ·rw [decide_eq_true q2, cond_true, if_neg (by omega)]
  ·rw [decide_eq_false q2, cond_false, if_pos (by omega), wi64 ((high + low / 4294967296) * 4294967296) (by omega), wi64 _ (by omega)]
   congr 2
   omega
theorem ref_sum_l (F : Nat) (hF : 1000 ≤ F) (l : List SCDR) (hl : l.length ≤ 100) (ht : ∀ c ∈ l, -9223372036854775808 ≤ c.Total ∧ c.Total ≤ 9223372036854775807) (ds : List SDispute) (hd : ds.length ≤ 900) (a b cur : ByteArray) (s : SSpan) : ∀ (n i : Nat) (high low : Int), i ≤ l.length → l.length < n + i →
  -(2147483648 * (i : Int)) ≤ high ∧ high ≤ 2147483648 * (i : Int) → 0 ≤ low ∧ low ≤ 4294967296 * (i : Int) → high * 4294967296 + low = (amts (l.take i) ds a b cur s).sum →
  chargenetref49_Owed_l42 F l ds a b cur s n high low (i : Int) = some (sumE (amts l ds a b cur s).sum)
 | 0, i, high, low, h1, h2, _, _, _ => by omega
 | n + 1, i, high, low, h1, h2, hh, hlo, h => by
  simp only [chargenetref49_Owed_l42, chargenetref49_Owed_b42, chargenetref49_Owed_p46]
  by_cases hi : i < l.length
  ·have htk : l.take (i + 1) = l.take i ++ [l[i]] := by rw [List.take_add_one, List.getElem?_eq_getElem hi]; rfl
   have hsum : (amts (l.take (i + 1)) ds a b cur s).sum = (amts (l.take i) ds a b cur s).sum + (if sel a b cur s l[i] then amtD ds l[i] else 0) := by
    unfold amts
    rw [htk, List.filter_append, List.map_append, List.sum_append, List.filter_cons]
    cases sel a b cur s l[i] <;> simp
   have hskip : sel a b cur s l[i] = false → chargenetref49_Owed_l42 F l ds a b cur s n high low ((i + 1 : Nat) : Int) = some (sumE (amts l ds a b cur s).sum) := fun hs =>
    ref_sum_l F hF l hl ht ds hd a b cur s n (i + 1) high low (by omega) (by omega) (by omega) (by omega) (by rw [hsum, hs, h]; simp)
   have hr := amtD_range ds l[i] (ht _ (List.getElem_mem hi))
   rw [show decide ((i : Int) < (l.length : Int)) = true by simpa using hi, cond_true, guard_pos (by omega), getD_nat l _ i hi, wsucc i (by omega), ref_amount_eq F hF _ _ hd, Option.bind_some]
   simp only [shr_32, iAnd_32]
   have hgo : sel a b cur s l[i] = true → chargenetref49_Owed_l42 F l ds a b cur s n (IntKind.wrap .i64 (high + amtD ds l[i] / 4294967296)) (IntKind.wrap .i64 (low + amtD ds l[i] % 4294967296)) ((i + 1 : Nat) : Int) = some (sumE (amts l ds a b cur s).sum) := fun hs => by
    rw [wi64 _ (by omega), wi64 _ (by omega)]
    exact ref_sum_l F hF l hl ht ds hd a b cur s n (i + 1) _ _ (by omega) (by omega) (by omega) (by omega) (by rw [hsum, hs, if_pos rfl]; omega)
   unfold sel at hskip hgo
   rcases (Bool.eq_false_or_eq_true (sEq l[i].Operator a)).symm with q1 | q1
   ·rw [q1]; exact hskip (by rw [q1]; rfl)
   rcases (Bool.eq_false_or_eq_true (sEq l[i].Provider b)).symm with q2 | q2
   ·rw [q1, q2]; exact hskip (by rw [q1, q2]; rfl)
   rcases (Bool.eq_false_or_eq_true (sEq l[i].Currency cur)).symm with q3 | q3
   ·rw [q1, q2, q3]; exact hskip (by rw [q1, q2, q3]; rfl)
   rcases Bool.eq_false_or_eq_true (decide (l[i].End < s.From)) with q4 | q4
   ·rw [q1, q2, q3, q4]; exact hskip (by rw [q1, q2, q3, q4]; rfl)
   rcases Bool.eq_false_or_eq_true (decide (s.To ≤ l[i].End)) with q5 | q5
   ·rw [q1, q2, q3, q4, q5]; exact hskip (by rw [q1, q2, q3, q4, q5]; rfl)
   rw [q1, q2, q3, q4, q5]
   exact hgo (by rw [q1, q2, q3, q4, q5]; rfl)
  ·rw [show decide ((i : Int) < (l.length : Int)) = false from decide_eq_false (by omega), cond_false]
   rw [List.take_of_length_le (by omega)] at h
   exact p14_eq _ high low (by omega) (by omega) h
theorem ref_ask (F : Nat) (hF : 1000 ≤ F) (l : List SCDR) (hl : l.length ≤ 100) (ht : ∀ c ∈ l, -9223372036854775808 ≤ c.Total ∧ c.Total ≤ 9223372036854775807) (ds : List SDispute) (hd : ds.length ≤ 900) (a b cur : ByteArray) (s : SSpan) :
  chargenetref49_Owed_p61 F l ds a b cur s = some (bif !decide (askE a b cur s = 0) then (0, askE a b cur s) else sumE (amts l ds a b cur s).sum) := by
 have h := ref_sum_l F hF l hl ht ds hd a b cur s F 0 0 0 (by omega) (by omega) (by omega) (by omega) (by simp [amts])
 simp only [Int.natCast_zero] at h
 unfold chargenetref49_Owed_p61 chargenetref49_Owed_p55
 simp only [id_refF F hF, cu_refF F hF, Option.bind_some, h]
 unfold askE parE
 cases idB a <;> try rfl
 cases idB b <;> try rfl
 cases sEq a b <;> try rfl
 cases cuB cur <;> try rfl
 cases decide (s.From < 0) <;> try rfl
 cases decide (s.To < s.From) <;> try rfl
 cases decide (268435456 < s.To) <;> rfl
theorem ref_ds_l (F : Nat) (hF : 1000 ≤ F) (l : List SCDR) (hl : l.length ≤ 100) (ht : ∀ c ∈ l, -9223372036854775808 ≤ c.Total ∧ c.Total ≤ 9223372036854775807) (ds : List SDispute) (hd : ds.length ≤ 900) (a b cur : ByteArray) (s : SSpan) : ∀ (n i : Nat), i ≤ ds.length → ds.length < n + i →
  chargenetref49_Owed_l73 F l ds a b cur s n (i : Int) = some (bif !decide (firstD (ds.drop i) = 0) then (0, firstD (ds.drop i)) else bif !decide (askE a b cur s = 0) then (0, askE a b cur s) else sumE (amts l ds a b cur s).sum)
 | 0, i, h1, h2 => by omega
 | n + 1, i, h1, h2 => by
  simp only [chargenetref49_Owed_l73, chargenetref49_Owed_b73]
  by_cases hi : i < ds.length
  ·rw [show decide ((i : Int) < (ds.length : Int)) = true by simpa using hi, cond_true, guard_pos (by omega), getD_nat ds _ i hi, ref_dis_eq F hF, Option.bind_some, wsucc i (by omega), ref_ds_l F hF l hl ht ds hd a b cur s n (i + 1) (by omega) (by omega), List.drop_eq_getElem_cons hi]
   simp only [firstD]
   rcases Bool.eq_false_or_eq_true (decide (disE ds[i] = 0)) with hq | hq
   ·simp only [hq, Bool.not_true, cond_false]
   ·simp only [hq, Bool.not_false, cond_true]
  ·rw [show decide ((i : Int) < (ds.length : Int)) = false from decide_eq_false (by omega), cond_false, List.drop_eq_nil_of_le (by omega), ref_ask F hF l hl ht ds hd]; rfl
theorem ref_cd_l (F : Nat) (hF : 1000 ≤ F) (l : List SCDR) (hl : l.length ≤ 100) (hit : ∀ c ∈ l, c.Items.length ≤ 40) (hcu : ∀ c ∈ l, c.Currency.size < F ∧ c.Currency.size ≤ 9223372036854775807) (ht : ∀ c ∈ l, -9223372036854775808 ≤ c.Total ∧ c.Total ≤ 9223372036854775807) (ds : List SDispute) (hd : ds.length ≤ 900) (a b cur : ByteArray) (s : SSpan) : ∀ (n i : Nat), i ≤ l.length → l.length < n + i →
  chargenetref49_Owed_l91 F l ds a b cur s n (i : Int) = some (bif !decide (chkE (l.drop i) ds a b cur s = 0) then (0, chkE (l.drop i) ds a b cur s) else sumE (amts l ds a b cur s).sum)
 | 0, i, h1, h2 => by omega
 | n + 1, i, h1, h2 => by
  simp only [chargenetref49_Owed_l91, chargenetref49_Owed_b91]
  by_cases hi : i < l.length
  ·have hm := List.getElem_mem hi
   rw [show decide ((i : Int) < (l.length : Int)) = true by simpa using hi, cond_true, guard_pos (by omega), getD_nat l _ i hi, ref_cdr_eq F hF _ (hit _ hm) (hcu _ hm).1 (hcu _ hm).2, Option.bind_some, wsucc i (by omega), ref_cd_l F hF l hl hit hcu ht ds hd a b cur s n (i + 1) (by omega) (by omega), List.drop_eq_getElem_cons hi]
   simp only [chkE, firstC]
   rcases Bool.eq_false_or_eq_true (decide (cdrE l[i] = 0)) with hq | hq
   ·simp only [hq, Bool.not_true, cond_false]
    rfl
   ·simp only [hq, Bool.not_false, cond_true]
  ·rw [show decide ((i : Int) < (l.length : Int)) = false from decide_eq_false (by omega), cond_false, List.drop_eq_nil_of_le (by omega)]
   unfold chargenetref49_Owed_p79
   have h := ref_ds_l F hF l hl ht ds hd a b cur s F 0 (by omega) (by omega)
   simp only [Int.natCast_zero, List.drop_zero] at h
   rw [h]
   simp only [chkE, firstC]
   rcases Bool.eq_false_or_eq_true (decide (firstD ds = 0)) with hq | hq
   ·simp only [hq, Bool.not_true, cond_false, decide_true]
   ·simp only [hq, Bool.not_false, cond_true, decide_true, Bool.not_true, cond_false]
theorem ref_owed_eq (F : Nat) (hF : 1000 ≤ F) (l : List SCDR) (hl : l.length ≤ 100) (hit : ∀ c ∈ l, c.Items.length ≤ 40) (hcu : ∀ c ∈ l, c.Currency.size < F ∧ c.Currency.size ≤ 9223372036854775807) (ht : ∀ c ∈ l, -9223372036854775808 ≤ c.Total ∧ c.Total ≤ 9223372036854775807) (ds : List SDispute) (hd : ds.length ≤ 900) (a b cur : ByteArray) (s : SSpan) :
  chargenetref49_Owed F l ds a b cur s = some (owedE l ds a b cur s) := by
 unfold chargenetref49_Owed owedE
 have h := ref_cd_l F hF l hl hit hcu ht ds hd a b cur s F 0 (by omega) (by omega)
 simpa using h
end Go.Proofs.Ytoncfkdgddfnlaa.M
