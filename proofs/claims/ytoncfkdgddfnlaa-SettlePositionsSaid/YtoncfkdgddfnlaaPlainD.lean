/- Plain laws of chapter 49: the function net pays the positions of one currency by determined steps. -/
import Derived.Test.YtoncfkdgddfnlaaPlainC
namespace Go.Proofs.Ytoncfkdgddfnlaa.M
open Go Go.Proofs.Ytoncfkdgddfnlaa.E Go.Proofs.Ytoncfkdgddfnlaa.W
set_option linter.unusedVariables false
set_option linter.unusedSimpArgs false
theorem w64 (x : Int) (h : -9223372036854775808 ≤ x ∧ x ≤ 9223372036854775807) : IntKind.wrap .i64 x = x := Go.IntWalk.i64_in _ (by omega)
def amtOf (x y : Int) : Int := if -y < x then -y else x
theorem amt_raw (left : List Int) (g l : Nat) (b2 : -1152921504606846976 ≤ left.getD l 0 ∧ left.getD l 0 ≤ 1152921504606846976) :
  (if IntKind.wrap .i64 (0 - left.getD l 0) < left.getD g 0 then IntKind.wrap .i64 (0 - left.getD l 0) else left.getD g 0) = amtOf (left.getD g 0) (left.getD l 0) := by
 rw [w64 _ (by omega), Int.zero_sub]; rfl
theorem p140_stop (m : List (ByteArray × Int)) (c : ByteArray) (left : List Int) (out : List SBalance) (kl : List Int → List SBalance → Option (List SBalance)) (g l : Nat) (hg : g < left.length) (hl : l < left.length)
  (b2 : -1152921504606846976 ≤ left.getD l 0 ∧ left.getD l 0 ≤ 1152921504606846976) (h : amtOf (left.getD g 0) (left.getD l 0) ≤ 0) : settle_net_p140 m c left out kl (g : Int) (l : Int) = some out := by
 unfold settle_net_p140
 simp only [Int.toNat_natCast]
 rw [guard_pos (by omega), guard_pos (by omega), amt_raw left g l b2, decide_eq_true h]
 rfl
theorem p140_go (m : List (ByteArray × Int)) (c : ByteArray) (left : List Int) (out : List SBalance) (kl : List Int → List SBalance → Option (List SBalance)) (g l : Nat) (hg : g < left.length) (hl : l < left.length) (hgl : g ≠ l)
  (b1 : -1152921504606846976 ≤ left.getD g 0 ∧ left.getD g 0 ≤ 1152921504606846976) (b2 : -1152921504606846976 ≤ left.getD l 0 ∧ left.getD l 0 ≤ 1152921504606846976) (hn : (sortB (m.map Prod.fst)).length = left.length) (ho : out.length ≤ 900)
  (h : 0 < amtOf (left.getD g 0) (left.getD l 0)) :
  settle_net_p140 m c left out kl (g : Int) (l : Int) = kl ((left.set g (left.getD g 0 - amtOf (left.getD g 0) (left.getD l 0))).set l (left.getD l 0 + amtOf (left.getD g 0) (left.getD l 0))) (out ++ [SBalance.mk ((sortB (m.map Prod.fst)).getD g ByteArray.empty) ((sortB (m.map Prod.fst)).getD l ByteArray.empty) c (amtOf (left.getD g 0) (left.getD l 0))]) := by
 unfold settle_net_p140
 simp only [Int.toNat_natCast]
 rw [guard_pos (by omega), guard_pos (by omega), amt_raw left g l b2, decide_eq_false (by omega), cond_false]
 have ha : amtOf (left.getD g 0) (left.getD l 0) ≤ 1152921504606846976 := by unfold amtOf; split <;> omega
 rw [guard_pos (by omega), guard_pos (by omega), guard_pos (by simp; omega), guard_pos (by omega), guard_pos (by omega), guard_pos (by rw [List.length_set]; omega), guard_pos (by rw [List.length_set]; omega)]
 have e1 : (left.set g (IntKind.wrap .i64 (left.getD g 0 - amtOf (left.getD g 0) (left.getD l 0)))).getD l 0 = left.getD l 0 := by
  rw [List.getD_eq_getElem?_getD, List.getElem?_set_ne hgl, ← List.getD_eq_getElem?_getD]
 rw [e1, w64 _ (by omega), w64 _ (by omega)]
structure FMx (f : Nat → Int) (len g i : Nat) : Prop where
 lt : g < len
 le : g ≤ i
 mx : ∀ j, j < i → f j ≤ f g ∧ (j < g → f j < f g)
theorem FMx.keep {f : Nat → Int} {len g i : Nat} (h : FMx f len g i) (h2 : ¬ f g < f i) : FMx f len g (i + 1) := by
 refine ⟨h.lt, by have := h.le; omega, fun j hj => ?_⟩
 have := h.le
 by_cases hji : j = i
 ·subst hji; exact ⟨by omega, fun hh => by omega⟩
 ·exact h.mx j (by omega)
theorem FMx.move {f : Nat → Int} {len g i : Nat} (h : FMx f len g i) (hi : i < len) (h2 : f g < f i) : FMx f len i (i + 1) := by
 refine ⟨hi, by omega, fun j hj => ?_⟩
 by_cases hji : j = i
 ·subst hji; exact ⟨Int.le_refl _, fun hh => by omega⟩
 ·have := (h.mx j (by omega)).1
  exact ⟨by omega, fun _ => by omega⟩
theorem scan_l (m : List (ByteArray × Int)) (c : ByteArray) (left : List Int) (hl : left.length ≤ 900) (out : List SBalance) (kl : List Int → List SBalance → Option (List SBalance)) : ∀ (n g l i : Nat), i ≤ left.length → left.length < n + i → FMx (fun j => left.getD j 0) left.length g i → FMx (fun j => -left.getD j 0) left.length l i →
  ∃ g' l' : Nat, settle_net_l174 m c left out kl n (g : Int) (l : Int) (i : Int) = settle_net_p140 m c left out kl (g' : Int) (l' : Int) ∧ FMx (fun j => left.getD j 0) left.length g' left.length ∧ FMx (fun j => -left.getD j 0) left.length l' left.length
 | 0, g, l, i, h1, h2, _, _ => by omega
 | n + 1, g, l, i, h1, h2, hg, hl' => by
  simp only [settle_net_l174, settle_net_b174]
  have g1 := hg.lt
  have g2 := hl'.lt
  by_cases hi : i < left.length
  ·rw [show decide ((i : Int) < (left.length : Int)) = true by simpa using hi, cond_true, guard_pos (by omega), guard_pos (by omega)]
   simp only [Int.toNat_natCast, settle_net_p183, settle_net_p178]
   rw [guard_pos (by omega), guard_pos (by omega), wsucc i (by omega)]
   by_cases c1 : left.getD g 0 < left.getD i 0
   ·rw [decide_eq_true c1, cond_true]
    by_cases c2 : left.getD i 0 < left.getD l 0
    ·rw [decide_eq_true c2, cond_true]
     exact scan_l m c left hl out kl n i i (i + 1) (by omega) (by omega) (hg.move hi c1) (hl'.move hi (by simpa using c2))
    ·rw [decide_eq_false c2, cond_false]
     exact scan_l m c left hl out kl n i l (i + 1) (by omega) (by omega) (hg.move hi c1) (hl'.keep (by simpa using c2))
   ·rw [decide_eq_false c1, cond_false]
    by_cases c2 : left.getD i 0 < left.getD l 0
    ·rw [decide_eq_true c2, cond_true]
     exact scan_l m c left hl out kl n g i (i + 1) (by omega) (by omega) (hg.keep c1) (hl'.move hi (by simpa using c2))
    ·rw [decide_eq_false c2, cond_false]
     exact scan_l m c left hl out kl n g l (i + 1) (by omega) (by omega) (hg.keep c1) (hl'.keep (by simpa using c2))
  ·rw [show decide ((i : Int) < (left.length : Int)) = false by simp; omega, cond_false]
   have : i = left.length := by omega
   subst this
   exact ⟨g, l, rfl, hg, hl'⟩
theorem asc_idx {names : List ByteArray} (h : names.Pairwise (fun a b => sLt a b = true)) {i j : Nat} (hi : i < names.length) (hj : j < names.length) (hlt : sLt (names[i]) (names[j]) = true) : i < j := by
 rcases Nat.lt_trichotomy i j with q | q | q
 ·exact q
 ·subst q; rw [sLt_irrefl] at hlt; cases hlt
 ·have := List.pairwise_iff_getElem.1 h j i hj hi q
  have := sLt_trans this hlt
  rw [sLt_irrefl] at this; cases this
theorem nodup_idx {names : List ByteArray} (h : names.Nodup) {i j : Nat} (hi : i < names.length) (hj : j < names.length) (he : names[i] = names[j]) : i = j := by
 rw [List.nodup_iff_pairwise_ne, List.pairwise_iff_getElem] at h
 rcases Nat.lt_trichotomy i j with q | q | q
 ·exact absurd he (h i j hi hj q)
 ·exact q
 ·exact absurd he.symm (h j i hj hi q)
theorem names_step {names : List ByteArray} {left : List Int} {p : Pos} {c : ByteArray} (hasc : names.Pairwise (fun a b => sLt a b = true)) (hlen : left.length = names.length) (hp : ∀ j (hj : j < names.length), left.getD j 0 = p c names[j]) (hsup : ∀ k, p c k ≠ 0 → k ∈ names) (hlow : ∀ c' k, sLt c' c = true → p c' k = 0)
  {g l : Nat} (hg : FMx (fun j => left.getD j 0) left.length g left.length) (hl : FMx (fun j => -left.getD j 0) left.length l left.length) (h : 0 < amtOf (left.getD g 0) (left.getD l 0)) :
  StepR p (SBalance.mk (names.getD g ByteArray.empty) (names.getD l ByteArray.empty) c (amtOf (left.getD g 0) (left.getD l 0))) ∧ g ≠ l ∧
  ∀ j (hj : j < names.length), ((left.set g (left.getD g 0 - amtOf (left.getD g 0) (left.getD l 0))).set l (left.getD l 0 + amtOf (left.getD g 0) (left.getD l 0))).getD j 0 = stepP p (SBalance.mk (names.getD g ByteArray.empty) (names.getD l ByteArray.empty) c (amtOf (left.getD g 0) (left.getD l 0))) c names[j] := by
 have g1 : g < names.length := by have := hg.lt; omega
 have l1 : l < names.length := by have := hl.lt; omega
 have eg : names.getD g ByteArray.empty = names[g] := by simp [List.getD_eq_getElem?_getD, g1]
 have el : names.getD l ByteArray.empty = names[l] := by simp [List.getD_eq_getElem?_getD, l1]
 have pg := hp g g1
 have pl := hp l l1
 have hnd := asc_nodup hasc
 have hpos : 0 < left.getD g 0 ∧ left.getD l 0 < 0 := by
  unfold amtOf at h
  split at h <;> constructor <;> omega
 have hgl : g ≠ l := by
  intro e; subst e; omega
 rw [eg, el]
 have hne : names[g] ≠ names[l] := fun e => hgl (nodup_idx hnd g1 l1 e)
 refine ⟨StepR.mk' (K := names) hsup hlow (by simp only; omega) (by simp only; omega) ?_ ?_ ?_, hgl, ?_⟩
 ·intro k hk
  obtain ⟨j, hj, rfl⟩ := List.mem_iff_getElem.1 hk
  obtain ⟨h1, h2⟩ := hg.mx j (by omega)
  simp only at h1 h2 ⊢
  rw [hp j hj, pg] at h1
  refine ⟨h1, fun he => ?_⟩
  rw [Bool.eq_false_iff]
  intro hlt
  have := h2 (asc_idx hasc hj g1 hlt)
  rw [hp j hj, pg] at this
  omega
 ·intro k hk
  obtain ⟨j, hj, rfl⟩ := List.mem_iff_getElem.1 hk
  obtain ⟨h1, h2⟩ := hl.mx j (by omega)
  simp only at h1 h2 ⊢
  rw [hp j hj, pl] at h1
  refine ⟨by omega, fun he => ?_⟩
  rw [Bool.eq_false_iff]
  intro hlt
  have := h2 (asc_idx hasc hj l1 hlt)
  rw [hp j hj, pl] at this
  omega
 ·simp only
  rw [← pg, ← pl]; rfl
 ·intro j hj
  have hpj := hp j hj
  have e1 : names[j] = names[l] ↔ l = j := ⟨fun e => (nodup_idx hnd hj l1 e).symm, fun e => by subst e; rfl⟩
  have e2 : names[j] = names[g] ↔ g = j := ⟨fun e => (nodup_idx hnd hj g1 e).symm, fun e => by subst e; rfl⟩
  simp only [stepP, con, List.getD_eq_getElem?_getD, List.getElem?_set, List.length_set, true_and, e1, e2] at hpj pg pl ⊢
  by_cases h1 : l = j
  ·subst h1
   rw [if_pos rfl, if_pos (by omega), if_neg hgl, if_pos rfl, Option.getD_some, pl]; omega
  ·rw [if_neg h1, if_neg h1]
   by_cases h2 : g = j
   ·subst h2
    rw [if_pos rfl, if_pos (by omega), if_pos rfl, Option.getD_some, pg]; omega
   ·rw [if_neg h2, if_neg h2, hpj]; omega
end Go.Proofs.Ytoncfkdgddfnlaa.M
