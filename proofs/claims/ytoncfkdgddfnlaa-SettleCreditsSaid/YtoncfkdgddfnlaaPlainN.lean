/- Plain laws of chapter 49: small cases. -/
import Derived.Test.YtoncfkdgddfnlaaPlainL
namespace Go.Proofs.Ytoncfkdgddfnlaa.M
open Go Go.Proofs.Ytoncfkdgddfnlaa.E Go.Proofs.Ytoncfkdgddfnlaa.W
set_option linter.unusedVariables false
set_option linter.unusedSimpArgs false
structure SmallP (c : SCase) : Prop where
 l : c.CDRs.length ≤ 20
 ds : c.Disputes.length ≤ 20
 a : c.A.size ≤ 100
 b : c.B.size ≤ 100
 it : ∀ x ∈ c.CDRs, x.Items.length ≤ 40
theorem small_l (c : SCase) (hl : c.CDRs.length ≤ 9223372036854775807) : ∀ (n i : Nat), i ≤ c.CDRs.length → c.CDRs.length < n + i → (∀ x ∈ c.CDRs.take i, x.Items.length ≤ 40) → chargenetlaw49_Small_l12 c n (i : Int) = some false ∨ (chargenetlaw49_Small_l12 c n (i : Int) = some true ∧ SmallP c)
 | 0, i, h1, h2, _ => by omega
 | n + 1, i, h1, h2, h => by
  simp only [chargenetlaw49_Small_l12, chargenetlaw49_Small_b12]
  by_cases hi : i < c.CDRs.length
  ·have htk : c.CDRs.take (i + 1) = c.CDRs.take i ++ [c.CDRs[i]] := by rw [List.take_add_one, List.getElem?_eq_getElem hi]; rfl
   rw [show decide ((i : Int) < (c.CDRs.length : Int)) = true by simpa using hi, cond_true, guard_pos (by omega), getD_nat c.CDRs _ i hi, wsuccB i (by omega)]
   by_cases q : (40 : Int) < (c.CDRs[i].Items.length : Int)
   ·rw [decide_eq_true q]; exact .inl rfl
   ·rw [decide_eq_false q, cond_false]
    refine small_l c hl n (i + 1) (by omega) (by omega) (fun x hx => ?_)
    rw [htk] at hx
    rcases List.mem_append.1 hx with hx | hx
    ·exact h x hx
    ·simp only [List.mem_singleton] at hx
     rw [hx]; omega
  ·rw [show decide ((i : Int) < (c.CDRs.length : Int)) = false from decide_eq_false (by omega), cond_false]
   rw [List.take_of_length_le (by omega)] at h
   unfold chargenetlaw49_Small_p4
   by_cases q1 : (c.CDRs.length : Int) ≤ 20
   ·rw [decide_eq_true q1, cond_true]
    by_cases q2 : (c.Disputes.length : Int) ≤ 20
    ·rw [decide_eq_true q2, cond_true]
     by_cases q3 : (c.A.size : Int) ≤ 100
     ·rw [decide_eq_true q3, cond_true]
      by_cases q4 : (c.B.size : Int) ≤ 100
      ·rw [decide_eq_true q4]
       exact .inr ⟨rfl, by omega, by omega, by omega, by omega, h⟩
      ·rw [decide_eq_false q4]; exact .inl rfl
     ·rw [decide_eq_false q3]; exact .inl rfl
    ·rw [decide_eq_false q2]; exact .inl rfl
   ·rw [decide_eq_false q1]; exact .inl rfl
def bigF (c : SCase) : Nat := 1000 + c.CDRs.length + (c.CDRs.map (fun x => x.Currency.size)).sum
theorem sum_mem : ∀ (l : List SCDR), ∀ x ∈ l, x.Currency.size ≤ (l.map (fun x => x.Currency.size)).sum
 | [], x, h => by cases h
 | y :: l, x, h => by
  rw [List.map_cons, List.sum_cons]
  rcases List.mem_cons.1 h with rfl | h
  ·omega
  ·have := sum_mem l x h; omega
theorem small_eq (c : SCase) (hl : c.CDRs.length ≤ 9223372036854775807) (F : Nat) (hF : c.CDRs.length < F) : chargenetlaw49_Small F c = some false ∨ (chargenetlaw49_Small F c = some true ∧ SmallP c) := by
 unfold chargenetlaw49_Small
 exact small_l c hl F 0 (by omega) (by omega) (by simp)
end Go.Proofs.Ytoncfkdgddfnlaa.M
