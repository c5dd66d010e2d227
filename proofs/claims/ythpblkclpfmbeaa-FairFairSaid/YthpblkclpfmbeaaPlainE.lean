/- Plain laws of Fill, where the sum is limited. -/
import Derived.Test.YthpblkclpfmbeaaPlainC
import Derived.Test.YthpblkclpfmbeaaPlainD
namespace Go.Proofs.Ythpblkclpfmbeaa.M.Fillf1_34
open Go Go.Proofs.Ythpblkclpfmbeaa.E Go.Proofs.Ythpblkclpfmbeaa.W
set_option linter.unusedVariables false
set_option linter.unusedSimpArgs false
theorem fill_share {F : Nat} (hF : 2000000000000 ≤ F) {n : Nat} {caps : List Int} (hc : Caps n caps) (q : Int) (total : Int) (h0 : 0 ≤ total) (hfit : ∀ l : List Int, Box n caps l → chargenetlaw10_sum_1 F l q = some (decide (sl l ≤ total))) : ∃ l, fair_Fill_f1_34 F caps q = some (l, 0) ∧ Sh caps total l := by
  have hz : sl (List.replicate n 0) = 0 := by
    clear hfit hc
    induction n with
    | zero => rfl
    | succ n ih => rw [List.replicate_succ, sl, ih]; rfl
  rcases fill_eq hF hc q (fit := fun l => decide (sl l ≤ total)) hfit (ShI n caps total) (Sh caps total) (fun t x act h => by
    cases t with
    | zero => obtain ⟨rfl, rfl⟩ := h; exact ⟨box_zero hc, by simp⟩
    | succ t => exact ⟨h.1, h.2.1⟩) (fun t x act d htn hI hfar => sh_step hc total h0 _ (fun _ => rfl) t x act d htn hI hfar) (fun x act h => by
    cases n with
    | zero =>
      have hcl := hc.len
      obtain rfl : caps = [] := List.length_eq_zero_iff.1 hcl
      obtain ⟨rfl, _⟩ := h
      exact .inl ⟨h0, rfl⟩
    | succ n => exact h.2.2.1) (fun _ => ⟨rfl, rfl⟩) with ⟨h, _⟩ | ⟨_, r, h1, h2⟩
  · rw [hz] at h; exact absurd h0 (of_decide_eq_false h)
  · exact ⟨r, h1, h2⟩
end Go.Proofs.Ythpblkclpfmbeaa.M.Fillf1_34
