/- Plain laws: vectors compared by their ascending order. -/
import Derived.Test.YtfefnffdocmlmaaPlainA
namespace Go.Proofs.Ytfefnffdocmlmaa.M
open Go Go.Proofs.Ytfefnffdocmlmaa.E Go.Proofs.Ytfefnffdocmlmaa.W
set_option linter.unusedVariables false
set_option linter.unusedSimpArgs false
theorem sorted_eq : ∀ (a b : List Int), a.Perm b → a.Pairwise (· ≤ ·) → b.Pairwise (· ≤ ·) → a = b
 | [], b, h, _, _ => (List.nil_perm.1 h).symm
 | x :: a, [], h, _, _ => absurd h.length_eq (by simp)
 | x :: a, y :: b, h, ha, hb => by
  obtain ⟨a1, a2⟩ := List.pairwise_cons.1 ha
  obtain ⟨b1, b2⟩ := List.pairwise_cons.1 hb
  have hxy : x = y := by
   have h1 : x ∈ y :: b := h.mem_iff.1 (List.mem_cons_self ..)
   have h2 : y ∈ x :: a := h.mem_iff.2 (List.mem_cons_self ..)
   rcases List.mem_cons.1 h1 with h1 | h1
   ·exact h1
   ·rcases List.mem_cons.1 h2 with h2 | h2
    ·exact h2.symm
    ·have := a1 y h2; have := b1 x h1; omega
  subst hxy
  rw [sorted_eq a b (List.Perm.cons_inv h) a2 b2]
def cmpL : List Int → List Int → Int
 | [], [] => 0
 | [], _ :: _ => -1
 | _ :: _, [] => 1
 | x :: a, y :: b => if x < y then -1 else if y < x then 1 else cmpL a b
theorem swp : ∀ (l : List Int) (k : Nat), k + 1 < l.length → ((l.set (k + 1) (l.getD k 0)).set k (l.getD (k + 1) 0)).Perm l
 | [], k, h => absurd h (by simp)
 | [_], k, h => absurd h (by simp)
 | a :: b :: t, 0, h => by
  simp only [List.set_cons_succ, List.set_cons_zero, List.getD_cons_zero, List.getD_cons_succ]
  exact List.Perm.swap ..
 | a :: t, k + 1, h => by
  simp only [List.set_cons_succ, List.getD_cons_succ]
  exact List.Perm.cons a (swp t k (by simpa using h))
def Srt (o : List Int) (i : Nat) : Prop := ∀ p q, p < q → q < i → o.getD p 0 ≤ o.getD q 0
structure Ins (o : List Int) (i k : Nat) : Prop where
 oth : ∀ p q, p < q → q ≤ i → p ≠ k → q ≠ k → o.getD p 0 ≤ o.getD q 0
 beh : ∀ q, k < q → q ≤ i → o.getD k 0 ≤ o.getD q 0
theorem inner_l (l0 : List Int) (h8 : l0.length ≤ 1000) (i : Nat) (kl : Int → List Int → Option (List Int)) (R : Option (List Int)) (hi : i < l0.length)
  (hk : ∀ o, o.length = l0.length → o.Perm l0 → Srt o (i + 1) → kl ((i + 1 : Nat) : Int) o = R) : ∀ (n k : Nat) (o : List Int), k < n → k ≤ i → o.length = l0.length → o.Perm l0 → Ins o i k → chargenetref10_Sorted_l88 (i : Int) kl n (k : Int) o = R
 | 0, k, o, h, _, _, _, _ => by omega
 | n + 1, k, o, hn, hki, hl, hp, hs => by
  simp only [chargenetref10_Sorted_l88, chargenetref10_Sorted_b88, chargenetref10_Sorted_p69]
  rw [wsucc i (by omega)]
  have done : (k = 0 ∨ o.getD (k - 1) 0 ≤ o.getD k 0) → kl ((i + 1 : Nat) : Int) o = R := by
   intro h
   refine hk o hl hp (fun p q h1 h2 => ?_)
   by_cases hpk : p = k
   ·subst hpk; exact hs.beh q h1 (by omega)
   ·by_cases hqk : q = k
    ·subst hqk
     rcases h with h | h
     ·omega
     ·by_cases h3 : p = q - 1
      ·rw [h3]; exact h
      ·have := hs.oth p (q - 1) (by omega) (by omega) hpk (by omega)
       omega
    ·exact hs.oth p q h1 (by omega) hpk hqk
  cases k with
  | zero =>
   rw [show decide ((0 : Int) < ((0 : Nat) : Int)) = false from rfl, cond_false]
   exact done (.inl rfl)
  | succ k =>
   have hw : IntKind.wrap .i64 (((k + 1 : Nat) : Int) - 1) = (k : Int) := by rw [Go.IntWalk.i64_in _ (by omega)]; omega
   rw [decide_eq_true (by omega), cond_true, hw, guard_pos (by omega), guard_pos (by omega), Int.toNat_natCast, Int.toNat_natCast]
   by_cases hlt : o.getD (k + 1) 0 < o.getD k 0
   ·rw [decide_eq_true hlt, cond_true, guard_pos (by omega), guard_pos (by omega), guard_pos (by omega), guard_pos (by simp; omega)]
    have hget : ∀ j, ((o.set (k + 1) (o.getD k 0)).set k (o.getD (k + 1) 0)).getD j 0 = if j = k then o.getD (k + 1) 0 else if j = k + 1 then o.getD k 0 else o.getD j 0 := by
     intro j
     rw [getD_set, getD_set]
     by_cases h1 : j = k
     ·rw [if_pos ⟨h1, by simp; omega⟩, if_pos h1]
     ·rw [if_neg (fun hh => h1 hh.1), if_neg h1]
      by_cases h2 : j = k + 1
      ·rw [if_pos ⟨h2, by omega⟩, if_pos h2]
      ·rw [if_neg (fun hh => h2 hh.1), if_neg h2]
    refine inner_l l0 h8 i kl R hi hk n k _ (by omega) (by omega) (by simpa using hl) ((swp o k (by omega)).trans hp) ⟨fun p q h1 h2 h3 h4 => ?_, fun q h1 h2 => ?_⟩
    ·rw [hget, hget, if_neg h3, if_neg h4]
     by_cases hpk : p = k + 1
     ·rw [if_pos hpk, if_neg (by omega)]
      exact hs.oth k q (by omega) h2 (by omega) (by omega)
     ·rw [if_neg hpk]
      by_cases hqk : q = k + 1
      ·rw [if_pos hqk]
       exact hs.oth p k (by omega) (by omega) hpk (by omega)
      ·rw [if_neg hqk]
       exact hs.oth p q h1 h2 hpk hqk
    ·rw [hget, hget, if_pos rfl, if_neg (by omega)]
     by_cases hqk : q = k + 1
     ·rw [if_pos hqk]; omega
     ·rw [if_neg hqk]
      exact hs.beh q (by omega) h2
   ·rw [decide_eq_false hlt, cond_false]
    exact done (.inr (by simp only [Nat.add_sub_cancel]; omega))
theorem outer_l (F : Nat) (hF : 2000 ≤ F) (l0 : List Int) (h8 : l0.length ≤ 1000) : ∀ (n i : Nat) (o : List Int), i ≤ l0.length → l0.length < n + i → o.length = l0.length → o.Perm l0 → Srt o i → chargenetref10_Sorted_l66 F n (i : Int) o = some (sortI l0)
 | 0, i, o, h1, h2, _, _, _ => by omega
 | n + 1, i, o, h1, h2, hl, hp, hs => by
  simp only [chargenetref10_Sorted_l66, chargenetref10_Sorted_b66, chargenetref10_Sorted_p3]
  by_cases hi : i < l0.length
  ·rw [decide_eq_true (by omega), cond_true]
   exact inner_l l0 h8 i _ _ hi (fun o' h3 h4 h5 => outer_l F hF l0 h8 n (i + 1) o' (by omega) (by omega) h3 h4 h5) F i o (by omega) (Nat.le_refl _) hl hp ⟨fun p q h3 h4 h5 h6 => hs p q h3 (by omega), fun q h3 h4 => by omega⟩
  ·rw [decide_eq_false (by omega), cond_false]
   congr 1
   refine sorted_eq o (sortI l0) (hp.trans (sortI_perm l0).symm) ?_ (sortI_sorted l0)
   rw [List.pairwise_iff_getElem]
   intro p q hp' hq' hpq
   have := hs p q hpq (by omega)
   rwa [getD_get hp', getD_get hq'] at this
theorem sorted_r (F : Nat) (hF : 2000 ≤ F) (l : List Int) (h8 : l.length ≤ 1000) : chargenetref10_Sorted F l = some (sortI l) := by
 unfold chargenetref10_Sorted
 rw [guard_pos (by simp; omega), List.nil_append]
 have := outer_l F hF l h8 F 0 l (by omega) (by omega) rfl (List.Perm.refl _) (fun p q h1 h2 => by omega)
 simpa only [Int.natCast_zero] using this
theorem cmp_rl (a b : List Int) (h8 : a.length ≤ 1000 ∧ b.length ≤ 1000) : ∀ (k i : Nat), i ≤ a.length → i ≤ b.length → a.length < k + i → chargenetref10_Compare_l25 a b k (i : Int) = some (cmpL (a.drop i) (b.drop i))
 | 0, i, h1, _, h2 => by omega
 | k + 1, i, h1, hb, h2 => by
  simp only [chargenetref10_Compare_l25, chargenetref10_Compare_b25, chargenetref10_Compare_p7]
  by_cases hi : i < a.length
  ·have ha : a.drop i = a.getD i 0 :: a.drop (i + 1) := by rw [List.drop_eq_getElem_cons hi, getD_get hi]
   rw [decide_eq_true (by omega), cond_true]
   by_cases hib : i < b.length
   ·have hbd : b.drop i = b.getD i 0 :: b.drop (i + 1) := by rw [List.drop_eq_getElem_cons hib, getD_get hib]
    rw [decide_eq_true (by omega), cond_true, guard_pos (by omega), guard_pos (by omega), guard_pos (by omega), guard_pos (by omega), Int.toNat_natCast, wsucc i (by omega), ha, hbd, cmp_rl a b h8 k (i + 1) (by omega) (by omega) (by omega), cmpL]
    by_cases c1 : a.getD i 0 < b.getD i 0
    ·rw [decide_eq_true c1, if_pos c1]; rfl
    ·by_cases c2 : b.getD i 0 < a.getD i 0
     ·rw [decide_eq_false c1, decide_eq_true c2, if_neg c1, if_pos c2]; rfl
     ·rw [decide_eq_false c1, decide_eq_false c2, if_neg c1, if_neg c2]; rfl
   ·have hbn : b.drop i = [] := List.drop_eq_nil_of_le (by omega)
    rw [decide_eq_false (by omega), cond_false, ha, hbn, decide_eq_false (by omega), cond_false, decide_eq_true (by omega)]; rfl
  ·rw [decide_eq_false (by omega), cond_false, List.drop_eq_nil_of_le (by omega)]
   by_cases hib : a.length < b.length
   ·rw [decide_eq_true (by omega), List.drop_eq_getElem_cons (by omega : i < b.length)]; rfl
   ·rw [decide_eq_false (by omega), cond_false, decide_eq_false (by omega), List.drop_eq_nil_of_le (by omega)]; rfl
theorem cmpL_self : ∀ a : List Int, cmpL a a = 0
 | [] => rfl
 | x :: a => by
  rw [cmpL, if_neg (Int.lt_irrefl x), if_neg (Int.lt_irrefl x)]
  exact cmpL_self a
theorem compare_self (F : Nat) (hF : 100000000000000000 ≤ F) (l : List Int) (h8 : l.length ≤ 1000) : chargenetref10_Compare F l l = some 0 := by
 unfold chargenetref10_Compare
 rw [sorted_r F (by omega) l h8]
 simp only [Option.bind_some]
 have hl : (sortI l).length = l.length := sortI_len l
 have := cmp_rl (sortI l) (sortI l) (by omega) F 0 (by omega) (by omega) (by omega)
 rw [show ((0 : Nat) : Int) = 0 from rfl] at this
 rw [this, cmpL_self]
end Go.Proofs.Ytfefnffdocmlmaa.M
