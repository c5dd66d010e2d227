/- Plain laws: the reference's Max, by shortest paths. -/
import Derived.Test.YtmiikbfacgmopaaPlainD
namespace Go.Proofs.Ytmiikbfacgmopaa.M
open Go Go.Proofs.Ytmiikbfacgmopaa.E Go.Proofs.Ytmiikbfacgmopaa.W
set_option linter.unusedVariables false
set_option linter.unusedSimpArgs false
def bc (k : Nat) : Int := if k % 2 = 0 then ((k / 2 : Nat) : Int) + 1 else -((k / 2 : Nat) : Int) - 1
def pos (D : List Int) : Nat := D.countP (fun x => decide (0 < x))
structure Ds (A : List SArc) (N : Nat) (l : Nat → Int) (s : Nat) (B D : List Int) : Prop where
 blen : B.length = N
 dlen : D.length = N
 src : D.getD s 0 = 1
 lo : ∀ v, v < N → 0 ≤ D.getD v 0
 par : ∀ v, v < N → 0 < D.getD v 0 → v ≠ s → ∃ k, k < 2 * A.length ∧ hd A k = v ∧ rm A l k ≠ 0 ∧ B.getD v 0 = bc k ∧ 0 < D.getD (tl A k) 0 ∧ D.getD v 0 = D.getD (tl A k) 0 + 1
theorem Ds.step {A : List SArc} {N : Nat} {l : Nat → Int} {s : Nat} {B D : List Int} (h : Ds A N l s B D) (hA : Net A N) {k : Nat} {d : Int} (hk : k < 2 * A.length) (hr : rm A l k ≠ 0) (ht : D.getD (tl A k) 0 = d) (hd0 : 0 < d) (hh : D.getD (hd A k) 0 = 0) :
  Ds A N l s (B.set (hd A k) (bc k)) (D.set (hd A k) (d + 1)) := by
 have hv := hd_lt hA hk
 have hgD : ∀ v, (D.set (hd A k) (d + 1)).getD v 0 = if v = hd A k then d + 1 else D.getD v 0 := by
  intro v
  rw [getD_set]
  by_cases hvv : v = hd A k
  ·rw [if_pos ⟨hvv, by rw [h.dlen]; exact hv⟩, if_pos hvv]
  ·rw [if_neg (fun hx => hvv hx.1), if_neg hvv]
 have hgB : ∀ v, (B.set (hd A k) (bc k)).getD v 0 = if v = hd A k then bc k else B.getD v 0 := by
  intro v
  rw [getD_set]
  by_cases hvv : v = hd A k
  ·rw [if_pos ⟨hvv, by rw [h.blen]; exact hv⟩, if_pos hvv]
  ·rw [if_neg (fun hx => hvv hx.1), if_neg hvv]
 have hs : s ≠ hd A k := fun he => by rw [← he, h.src] at hh; omega
 have hne : tl A k ≠ hd A k := fun he => by rw [he] at ht; omega
 refine ⟨by rw [List.length_set]; exact h.blen, by rw [List.length_set]; exact h.dlen, by rw [hgD, if_neg hs]; exact h.src, fun v hvN => ?_, fun v hvN h0 hvs => ?_⟩
 ·rw [hgD]; split
  ·omega
  ·exact h.lo v hvN
 ·rw [hgD] at h0
  by_cases he : v = hd A k
  ·subst he
   exact ⟨k, hk, rfl, hr, by rw [hgB, if_pos rfl], by rw [hgD, if_neg hne, ht]; exact hd0, by rw [hgD, hgD, if_pos rfl, if_neg hne, ht]⟩
  ·rw [if_neg he] at h0
   obtain ⟨k', h1, h2, h3, h4, h5, h6⟩ := h.par v hvN h0 hvs
   have h7 : tl A k' ≠ hd A k := fun hx => by rw [hx, hh] at h5; omega
   exact ⟨k', h1, h2, h3, by rw [hgB, if_neg he]; exact h4, by rw [hgD, if_neg h7]; exact h5, by rw [hgD, hgD, if_neg he, if_neg h7]; exact h6⟩
inductive Pm (A : List SArc) (l : Nat → Int) (s : Nat) (B D : List Int) (δ : Int) : Nat → Prop
 | src : Pm A l s B D δ s
 | step (k : Nat) (hk : k < 2 * A.length) (hv : hd A k ≠ s) (hb : B.getD (hd A k) 0 = bc k) (hr : δ ≤ rm A l k) (hD : D.getD (hd A k) 0 = D.getD (tl A k) 0 + 1) (hp : Pm A l s B D δ (tl A k)) : Pm A l s B D δ (hd A k)
end Go.Proofs.Ytmiikbfacgmopaa.M
