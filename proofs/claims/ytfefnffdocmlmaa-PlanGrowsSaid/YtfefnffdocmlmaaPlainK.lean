/- Plain laws: least, raised vectors, the turns of a division; no program's variant in sight. -/
import Derived.Test.YtfefnffdocmlmaaPlainA
namespace Go.Proofs.Ytfefnffdocmlmaa.M
open Go Go.Proofs.Ytfefnffdocmlmaa.E Go.Proofs.Ytfefnffdocmlmaa.W
set_option linter.unusedVariables false
set_option linter.unusedSimpArgs false
def mn (a c : Int) : Int := if c < a then c else a
theorem mn_le (a c : Int) : mn a c ≤ a ∧ mn a c ≤ c ∧ (mn a c = a ∨ mn a c = c) := by unfold mn; split <;> omega
theorem least_eq (F : Nat) (hF : 100 ≤ F) (a c : Int) : fair_least_int F a [c] = some (mn a c) := by
 obtain ⟨F, rfl⟩ : ∃ G, F = G + 2 := ⟨F - 2, by omega⟩
 unfold fair_least_int
 rw [fair_least_int_l15]
 unfold fair_least_int_b15 fair_least_int_p18
 rw [show decide ((0 : Int) < (([c] : List Int).length : Int)) = true from rfl, cond_true, guard_pos (by simp), show ([c] : List Int).getD (0 : Int).toNat 0 = c from rfl, show IntKind.wrap .i64 ((0 : Int) + 1) = 1 from rfl]
 have h : ∀ y : Int, fair_least_int_l15 [c] (F + 1) y 1 = some y := fun y => by
  rw [fair_least_int_l15]; unfold fair_least_int_b15 fair_least_int_p2
  rw [show decide ((1 : Int) < (([c] : List Int).length : Int)) = false from rfl]; rfl
 simp only [h]
 unfold mn
 by_cases hc : c < a
 ·rw [decide_eq_true hc, if_pos hc]; rfl
 ·rw [decide_eq_false hc, if_neg hc]; rfl
structure Box (n : Nat) (caps x : List Int) : Prop where
 len : x.length = n
 bd : ∀ i, i < n → 0 ≤ x.getD i 0 ∧ x.getD i 0 ≤ caps.getD i 0
structure Caps (n : Nat) (caps : List Int) : Prop where
 len : caps.length = n
 n64 : n ≤ 64
 bd : ∀ i, i < n → 0 ≤ caps.getD i 0 ∧ caps.getD i 0 ≤ 1099511627776
def rs (caps x : List Int) (act : List Bool) (d : Int) : List Int := (List.range x.length).map fun i => if act.getD i false = true then mn (x.getD i 0 + d) (caps.getD i 0) else x.getD i 0
theorem rs_len (caps x : List Int) (act : List Bool) (d : Int) : (rs caps x act d).length = x.length := by simp [rs]
theorem rs_get (caps x : List Int) (act : List Bool) (d : Int) (i : Nat) (h : i < x.length) : (rs caps x act d).getD i 0 = if act.getD i false = true then mn (x.getD i 0 + d) (caps.getD i 0) else x.getD i 0 := by
 rw [List.getD_eq_getElem?_getD]; simp [rs, h]
theorem ext_getD {α : Type} {a b : List α} (d : α) (h : a.length = b.length) (hg : ∀ i, i < a.length → a.getD i d = b.getD i d) : a = b := by
 apply List.ext_getElem h
 intro i h1 h2
 have := hg i h1
 rwa [getD_get h1, getD_get h2] at this
theorem rs_box {n : Nat} {caps x : List Int} (hx : Box n caps x) (act : List Bool) (d : Int) (hd : 0 ≤ d) : Box n caps (rs caps x act d) := by
 refine ⟨(rs_len ..).trans hx.len, fun i hi => ?_⟩
 rw [rs_get _ _ _ _ _ (by rw [hx.len]; exact hi)]
 have := hx.bd i hi
 have := mn_le (x.getD i 0 + d) (caps.getD i 0)
 split <;> omega
theorem rs_zero {n : Nat} {caps x : List Int} (hx : Box n caps x) (act : List Bool) : rs caps x act 0 = x := by
 refine ext_getD 0 (rs_len ..) (fun i hi => ?_)
 rw [rs_len] at hi
 rw [rs_get _ _ _ _ _ hi]
 have := hx.bd i (by rw [← hx.len]; exact hi)
 unfold mn
 split
 ·split <;> omega
 ·rfl
def Far (n : Nat) (caps x : List Int) (act : List Bool) (fit : List Int → Bool) (d : Int) : Prop :=
 0 ≤ d ∧ d ≤ 1099511627776 ∧ ((d = 0 ∨ fit (rs caps x act d) = true) ∧ ((∀ i, i < n → act.getD i false = true → caps.getD i 0 - x.getD i 0 ≤ d) ∨ fit (rs caps x act (d + 1)) = false))
def sg (caps : List Int) (fit : List Int → Bool) : Nat → Nat → Bool → List Int → List Bool → Bool × List Int × List Bool
 | 0, _, left, x, act => (left, x, act)
 | k + 1, i, left, x, act =>
  bif act.getD i false then
   (bif decide (x.getD i 0 < caps.getD i 0) && fit (x.set i (x.getD i 0 + 1)) then sg caps fit k (i + 1) true (x.set i (x.getD i 0 + 1)) act
   else sg caps fit k (i + 1) left x (act.set i false))
  else sg caps fit k (i + 1) left x act
theorem copy_all {α : Type} (l s : List α) (h : s.length = l.length) : copyL l 0 l.length s = s := by
 unfold copyL
 rw [h, Nat.min_self, Nat.zero_add, List.drop_length, List.take_of_length_le (l := s) (by omega), List.take_zero]; simp
theorem set_box {n : Nat} {caps x : List Int} (hx : Box n caps x) (i : Nat) (h : x.getD i 0 < caps.getD i 0) : Box n caps (x.set i (x.getD i 0 + 1)) := by
 refine ⟨by simp [hx.len], fun j hj => ?_⟩
 rw [getD_set]
 have h1 := hx.bd j hj
 by_cases hji : j = i ∧ i < x.length
 ·rw [if_pos hji]; rw [hji.1] at h1; rw [hji.1]; omega
 ·rw [if_neg hji]; exact h1
theorem check_l (caps : List Int) (hl : caps.length ≤ 64) (h : ∀ i, i < caps.length → 0 ≤ caps.getD i 0 ∧ caps.getD i 0 ≤ 1099511627776) : ∀ (k i : Nat), i ≤ caps.length → caps.length < k + i → fair_check_l12 caps k (i : Int) = some 0
 | 0, i, h1, h2 => by omega
 | k + 1, i, h1, h2 => by
  simp only [fair_check_l12, fair_check_b12]
  by_cases hi : i < caps.length
  ·have := h i hi
   rw [decide_eq_true (by omega), cond_true, guard_pos (by omega), Int.toNat_natCast, decide_eq_false (by omega), cond_false, decide_eq_false (by omega), cond_false, wsucc i (by omega)]
   exact check_l caps hl h k (i + 1) (by omega) (by omega)
  ·rw [decide_eq_false (by omega), cond_false]; rfl
theorem check_ok (F : Nat) (hF : 100 ≤ F) {n : Nat} {caps : List Int} (h : Caps n caps) : fair_check F caps = some 0 := by
 have := h.len; have := h.n64
 unfold fair_check
 rw [decide_eq_false (by omega), cond_false]
 exact check_l caps (by omega) (fun i hi => h.bd i (by omega)) F 0 (by omega) (by omega)
end Go.Proofs.Ytfefnffdocmlmaa.M
