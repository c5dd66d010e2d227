/- Plain laws of chapter 18: plans that keep all limits (Check, and the reference's Check). -/
import Derived.Test.YtfefnffdocmlmaaPlainF
namespace Go.Proofs.Ytfefnffdocmlmaa.M
open Go Go.Proofs Go.Proofs.Ytfefnffdocmlmaa.E Go.Proofs.Ytfefnffdocmlmaa.W
set_option linter.unusedVariables false
set_option linter.unusedSimpArgs false
theorem mul_bd {a b A B : Int} (h1 : 0 ≤ a ∧ a ≤ A) (h2 : 0 ≤ b ∧ b ≤ B) : 0 ≤ a * b ∧ a * b ≤ A * B :=
 ⟨Int.mul_nonneg h1.1 h2.1, Int.mul_le_mul h1.2 h2.2 h2.1 (Int.le_trans h1.1 h1.2)⟩
def D (p : SProblem) (i : Nat) : SDemand := p.Demands.getD i dSDemand
def us (p : SProblem) (d : SDemand) (t : Nat) : Bool := decide (d.Arrive ≤ p.From + t * p.Length ∧ p.From + t * p.Length + p.Length ≤ d.Depart)
theorem VP.slot {p : SProblem} (h : VP p) {t : Nat} (ht : t < p.Caps.length) : 0 ≤ (t : Int) * p.Length ∧ (t : Int) * p.Length ≤ 48 * 1440 :=
 mul_bd (by have := h.nc; omega) (by have := h.len; omega)
theorem VP.ml {p : SProblem} (h : VP p) {i : Nat} (hi : i < p.Demands.length) : 0 ≤ (D p i).Max * p.Length ∧ (D p i).Max * p.Length ≤ 3145728 * 1440 := by
 have h1 := h.dem i hi
 have h2 := h.len
 unfold okDem at h1
 exact mul_bd (a := (p.Demands.getD i dSDemand).Max) ⟨h1.2.2.1, h1.2.2.2.1⟩ (by omega)
theorem VP.cl {p : SProblem} (h : VP p) {t f : Nat} (ht : t < p.Caps.length) (hf : f < p.Parents.length) : 0 ≤ (p.Caps.getD t []).getD f 0 * p.Length ∧ (p.Caps.getD t []).getD f 0 * p.Length ≤ 1073741824 * 1440 := by
 have h1 := h.cap t ht f hf
 have h2 := h.len
 unfold okCap at h1
 exact mul_bd (by omega) (by omega)
theorem usable_eq {p : SProblem} (h : VP p) (F : Nat) (d : SDemand) {t : Nat} (ht : t < p.Caps.length) : plan_usable F p d (t : Int) = some (us p d t) ∧ chargenetref18_Usable F p d (t : Int) = some (us p d t) := by
 have h1 := h.slot ht
 have h2 := h.from0
 have h3 := h.len
 have w1 : IntKind.wrap .i64 ((t : Int) * p.Length) = (t : Int) * p.Length := Go.IntWalk.i64_in _ (by omega)
 have w2 : IntKind.wrap .i64 (p.From + (t : Int) * p.Length) = p.From + (t : Int) * p.Length := Go.IntWalk.i64_in _ (by omega)
 have w3 : IntKind.wrap .i64 (p.From + (t : Int) * p.Length + p.Length) = p.From + (t : Int) * p.Length + p.Length := Go.IntWalk.i64_in _ (by omega)
 unfold plan_usable chargenetref18_Usable us
 rw [w1, w2, w3]
 by_cases a : d.Arrive ≤ p.From + (t : Int) * p.Length
 ·rw [decide_eq_true a, cond_true]
  simp only [a, true_and, and_self]
 ·rw [decide_eq_false a, cond_false]
  simp only [a, false_and, decide_false, and_self]
def bel (p : SProblem) : Nat → Int → Nat → Bool
 | 0, _, _ => false
 | k + 1, f, g => bif decide (f < 0) then false else (bif decide (f = (g : Int)) then true else bel p k (p.Parents.getD f.toNat 0) g)
def B (p : SProblem) (f : Int) (g : Nat) : Bool := bel p 64 f g
def bI (b : Bool) (x : Int) : Int := bif b then x else 0
theorem bI_bd {b : Bool} {x M : Int} (h : 0 ≤ x ∧ x ≤ M) : 0 ≤ bI b x ∧ bI b x ≤ M := by
 cases b
 ·exact ⟨Int.le_refl _, Int.le_trans h.1 h.2⟩
 ·exact h
def X (l : List (List Int)) (i u : Nat) : Int := (l.getD i []).getD u 0
theorem S_succ (g : Nat → Int) (n : Nat) : S g (n + 1) = S g n + g n := rfl
end Go.Proofs.Ytfefnffdocmlmaa.M
