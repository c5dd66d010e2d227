/- Plain laws of chapter 18: what is a valid problem is accepted. -/
import Derived.Test.YtfefnffdocmlmaaPlainF
namespace Go.Proofs.Ytfefnffdocmlmaa.M
open Go Go.Proofs Go.Proofs.Ytfefnffdocmlmaa.E Go.Proofs.Ytfefnffdocmlmaa.W
set_option linter.unusedVariables false
set_option linter.unusedSimpArgs false
theorem par_v (F : Nat) (p : SProblem) (hl : p.Parents.length ≤ 32) : ∀ (k i : Nat), i ≤ p.Parents.length → p.Parents.length < k + i →
  (plan_forest_l68 F p k (i : Int) = some false ∧ chargenetref18_Valid_l114 F p k (i : Int) = some 1 ∧ ∃ f, f < p.Parents.length ∧ ¬ okPar p f) ∨
  (plan_forest_l68 F p k (i : Int) = plan_forest_p58 F p ∧ chargenetref18_Valid_l114 F p k (i : Int) = chargenetref18_Valid_p104 F p ∧ ∀ f, i ≤ f → f < p.Parents.length → okPar p f)
 | 0, i, h1, h2 => by omega
 | k + 1, i, h1, h2 => by
  simp only [plan_forest_l68, plan_forest_b68, chargenetref18_Valid_l114, chargenetref18_Valid_b114]
  by_cases hi : i < p.Parents.length
  ·rw [decide_eq_true (show (i : Int) < (p.Parents.length : Int) by omega), cond_true, cond_true, guard_pos (show (0 : Int) ≤ (i : Int) ∧ (i : Int) < (p.Parents.length : Int) by omega), guard_pos (show (0 : Int) ≤ (i : Int) ∧ (i : Int) < (p.Parents.length : Int) by omega), Int.toNat_natCast, wsucc i (by omega)]
   by_cases a1 : p.Parents.getD i 0 < -1
   ·rw [decide_eq_true a1]; exact .inl ⟨rfl, rfl, i, hi, by unfold okPar; omega⟩
   rw [decide_eq_false a1, cond_false, cond_false]
   by_cases a2 : (i : Int) ≤ p.Parents.getD i 0
   ·rw [decide_eq_true a2]; exact .inl ⟨rfl, rfl, i, hi, by unfold okPar; omega⟩
   rw [decide_eq_false a2, cond_false, cond_false]
   rcases par_v F p hl k (i + 1) (by omega) (by omega) with h | ⟨h3, h4, h5⟩
   ·exact .inl h
   ·refine .inr ⟨h3, h4, fun f g1 g2 => ?_⟩
    by_cases hf : f = i
    ·subst hf; unfold okPar; omega
    ·exact h5 f (by omega) g2
  ·rw [decide_eq_false (show ¬ (i : Int) < (p.Parents.length : Int) by omega)]
   exact .inr ⟨rfl, rfl, fun f g1 g2 => by omega⟩
theorem capi_v (p : SProblem) (t : Nat) (hl : (p.Caps.getD t []).length ≤ 32) (K : Int → Option Bool) (K' : Int → Option Int) : ∀ (k i : Nat), i ≤ (p.Caps.getD t []).length → (p.Caps.getD t []).length < k + i →
  (plan_forest_l53 p (t : Int) K k (i : Int) = some false ∧ chargenetref18_Valid_l99 p (t : Int) K' k (i : Int) = some 1 ∧ ∃ f, f < (p.Caps.getD t []).length ∧ ¬ okCap p t f) ∨
  (plan_forest_l53 p (t : Int) K k (i : Int) = plan_forest_p41 (t : Int) K ∧ chargenetref18_Valid_l99 p (t : Int) K' k (i : Int) = chargenetref18_Valid_p87 (t : Int) K' ∧ ∀ f, i ≤ f → f < (p.Caps.getD t []).length → okCap p t f)
 | 0, i, h1, h2 => by omega
 | k + 1, i, h1, h2 => by
  simp only [plan_forest_l53, plan_forest_b53, chargenetref18_Valid_l99, chargenetref18_Valid_b99, Int.toNat_natCast]
  by_cases hi : i < (p.Caps.getD t []).length
  ·rw [decide_eq_true (show (i : Int) < ((p.Caps.getD t []).length : Int) by omega), cond_true, cond_true, guard_pos (show (0 : Int) ≤ (i : Int) ∧ (i : Int) < ((p.Caps.getD t []).length : Int) by omega), guard_pos (show (0 : Int) ≤ (i : Int) ∧ (i : Int) < ((p.Caps.getD t []).length : Int) by omega), wsucc i (by omega)]
   by_cases a1 : (p.Caps.getD t []).getD i 0 < 0
   ·rw [decide_eq_true a1]; exact .inl ⟨rfl, rfl, i, hi, by unfold okCap; omega⟩
   rw [decide_eq_false a1, cond_false, cond_false]
   by_cases a2 : 1073741824 < (p.Caps.getD t []).getD i 0
   ·rw [decide_eq_true a2]; exact .inl ⟨rfl, rfl, i, hi, by unfold okCap; omega⟩
   rw [decide_eq_false a2, cond_false, cond_false]
   rcases capi_v p t hl K K' k (i + 1) (by omega) (by omega) with h | ⟨h3, h4, h5⟩
   ·exact .inl h
   ·refine .inr ⟨h3, h4, fun f g1 g2 => ?_⟩
    by_cases hf : f = i
    ·subst hf; unfold okCap; omega
    ·exact h5 f (by omega) g2
  ·rw [decide_eq_false (show ¬ (i : Int) < ((p.Caps.getD t []).length : Int) by omega)]
   exact .inr ⟨rfl, rfl, fun f g1 g2 => by omega⟩
theorem cap_v (F : Nat) (hF : 100000000000000000 ≤ F) (p : SProblem) (hl : p.Parents.length ≤ 32) (hc : p.Caps.length ≤ 48) : ∀ (k t : Nat), t ≤ p.Caps.length → p.Caps.length < k + t →
  (plan_forest_l39 F p k (t : Int) = some false ∧ chargenetref18_Valid_l85 F p k (t : Int) = some 1 ∧ ∃ u, u < p.Caps.length ∧ ¬ ((p.Caps.getD u []).length = p.Parents.length ∧ ∀ f, f < p.Parents.length → okCap p u f)) ∨
  (plan_forest_l39 F p k (t : Int) = some true ∧ chargenetref18_Valid_l85 F p k (t : Int) = chargenetref18_Valid_p47 F p ∧ ∀ u, t ≤ u → u < p.Caps.length → (p.Caps.getD u []).length = p.Parents.length ∧ ∀ f, f < p.Parents.length → okCap p u f)
 | 0, t, h1, h2 => by omega
 | k + 1, t, h1, h2 => by
  simp only [plan_forest_l39, plan_forest_b39, chargenetref18_Valid_l85, chargenetref18_Valid_b85, Int.toNat_natCast]
  by_cases hi : t < p.Caps.length
  ·rw [decide_eq_true (show (t : Int) < (p.Caps.length : Int) by omega), cond_true, cond_true, guard_pos (show (0 : Int) ≤ (t : Int) ∧ (t : Int) < (p.Caps.length : Int) by omega), guard_pos (show (0 : Int) ≤ (t : Int) ∧ (t : Int) < (p.Caps.length : Int) by omega)]
   by_cases a1 : ((p.Caps.getD t []).length : Int) = (p.Parents.length : Int)
   ·rw [decide_eq_true a1, Bool.not_true, cond_false, cond_false]
    have a1' : (p.Caps.getD t []).length = p.Parents.length := by omega
    rcases capi_v p t (by omega) (fun t28_20 => plan_forest_l39 F p k t28_20) (fun t63_66 => chargenetref18_Valid_l85 F p k t63_66) F 0 (by omega) (by omega) with ⟨k1, k2, f, k3, k4⟩ | ⟨h3, h4, h5⟩
    ·exact .inl ⟨k1, k2, t, hi, fun hh => k4 (hh.2 f (by omega))⟩
    ·simp only [Int.ofNat_eq_natCast, Int.natCast_zero] at h3 h4
     rw [h3, h4]
     unfold plan_forest_p41 chargenetref18_Valid_p87
     rw [wsucc t (by omega)]
     rcases cap_v F hF p hl hc k (t + 1) (by omega) (by omega) with h | ⟨g3, g4, g5⟩
     ·exact .inl h
     ·refine .inr ⟨g3, g4, fun u k1 k2 => ?_⟩
      by_cases hu : u = t
      ·subst hu; exact ⟨a1', fun f hf => h5 f (by omega) (by omega)⟩
      ·exact g5 u (by omega) k2
   ·rw [decide_eq_false a1]; exact .inl ⟨rfl, rfl, t, hi, fun hh => a1 (by omega)⟩
  ·rw [decide_eq_false (show ¬ (t : Int) < (p.Caps.length : Int) by omega)]
   exact .inr ⟨rfl, rfl, fun f g1 g2 => by omega⟩
theorem dem_v (p : SProblem) (hd : p.Demands.length ≤ 16) : ∀ (k i : Nat), i ≤ p.Demands.length → p.Demands.length < k + i →
  ∃ e, plan_Valid_l38 p k (i : Int) = some e ∧ chargenetref18_Valid_l35 p k (i : Int) = some e ∧ (e = 0 ↔ ∀ j, i ≤ j → j < p.Demands.length → okDem p (p.Demands.getD j dSDemand))
 | 0, i, h1, h2 => by omega
 | k + 1, i, h1, h2 => by
  simp only [plan_Valid_l38, plan_Valid_b38, chargenetref18_Valid_l35, chargenetref18_Valid_b35, Int.toNat_natCast]
  by_cases hi : i < p.Demands.length
  ·rw [decide_eq_true (show (i : Int) < (p.Demands.length : Int) by omega), cond_true, cond_true, guard_pos (show (0 : Int) ≤ (i : Int) ∧ (i : Int) < (p.Demands.length : Int) by omega), guard_pos (show (0 : Int) ≤ (i : Int) ∧ (i : Int) < (p.Demands.length : Int) by omega), wsucc i (by omega)]
   by_cases a1 : (p.Demands.getD i dSDemand).Feeder < 0
   ·rw [decide_eq_true a1]; exact ⟨1, rfl, rfl, fun h => absurd h (by decide), fun h => by have := h i (Nat.le_refl _) hi; unfold okDem at this; omega⟩
   by_cases a2 : (p.Parents.length : Int) ≤ (p.Demands.getD i dSDemand).Feeder
   ·rw [decide_eq_false a1, decide_eq_true a2]; exact ⟨1, rfl, rfl, fun h => absurd h (by decide), fun h => by have := h i (Nat.le_refl _) hi; unfold okDem at this; omega⟩
   by_cases a3 : (p.Demands.getD i dSDemand).Max < 0
   ·rw [decide_eq_false a1, decide_eq_false a2, decide_eq_true a3]; exact ⟨2, rfl, rfl, fun h => absurd h (by decide), fun h => by have := h i (Nat.le_refl _) hi; unfold okDem at this; omega⟩
   by_cases a4 : 3145728 < (p.Demands.getD i dSDemand).Max
   ·rw [decide_eq_false a1, decide_eq_false a2, decide_eq_false a3, decide_eq_true a4]; exact ⟨2, rfl, rfl, fun h => absurd h (by decide), fun h => by have := h i (Nat.le_refl _) hi; unfold okDem at this; omega⟩
   by_cases a5 : (p.Demands.getD i dSDemand).Energy < 0
   ·rw [decide_eq_false a1, decide_eq_false a2, decide_eq_false a3, decide_eq_false a4, decide_eq_true a5]; exact ⟨2, rfl, rfl, fun h => absurd h (by decide), fun h => by have := h i (Nat.le_refl _) hi; unfold okDem at this; omega⟩
   by_cases a6 : 1099511627776 < (p.Demands.getD i dSDemand).Energy
   ·rw [decide_eq_false a1, decide_eq_false a2, decide_eq_false a3, decide_eq_false a4, decide_eq_false a5, decide_eq_true a6]; exact ⟨2, rfl, rfl, fun h => absurd h (by decide), fun h => by have := h i (Nat.le_refl _) hi; unfold okDem at this; omega⟩
   by_cases a7 : (p.Demands.getD i dSDemand).Arrive < 0
   ·rw [decide_eq_false a1, decide_eq_false a2, decide_eq_false a3, decide_eq_false a4, decide_eq_false a5, decide_eq_false a6, decide_eq_true a7]; exact ⟨2, rfl, rfl, fun h => absurd h (by decide), fun h => by have := h i (Nat.le_refl _) hi; unfold okDem at this; omega⟩
   by_cases a8 : (p.Demands.getD i dSDemand).Depart < (p.Demands.getD i dSDemand).Arrive
   ·rw [decide_eq_false a1, decide_eq_false a2, decide_eq_false a3, decide_eq_false a4, decide_eq_false a5, decide_eq_false a6, decide_eq_false a7, decide_eq_true a8]; exact ⟨2, rfl, rfl, fun h => absurd h (by decide), fun h => by have := h i (Nat.le_refl _) hi; unfold okDem at this; omega⟩
   by_cases a9 : 268435456 < (p.Demands.getD i dSDemand).Depart
   ·rw [decide_eq_false a1, decide_eq_false a2, decide_eq_false a3, decide_eq_false a4, decide_eq_false a5, decide_eq_false a6, decide_eq_false a7, decide_eq_false a8, decide_eq_true a9]; exact ⟨2, rfl, rfl, fun h => absurd h (by decide), fun h => by have := h i (Nat.le_refl _) hi; unfold okDem at this; omega⟩
   rw [decide_eq_false a1, decide_eq_false a2, decide_eq_false a3, decide_eq_false a4, decide_eq_false a5, decide_eq_false a6, decide_eq_false a7, decide_eq_false a8, decide_eq_false a9]
   simp only [cond_false]
   obtain ⟨e, e1, e2, e3⟩ := dem_v p hd k (i + 1) (by omega) (by omega)
   refine ⟨e, e1, e2, fun h j g1 g2 => ?_, fun h => e3.2 fun j g1 g2 => h j (by omega) g2⟩
   by_cases hj : j = i
   ·subst hj; unfold okDem; omega
   ·exact e3.1 h j (by omega) g2
  ·rw [decide_eq_false (show ¬ (i : Int) < (p.Demands.length : Int) by omega)]
   exact ⟨0, rfl, rfl, fun _ j g1 g2 => by omega, fun _ => rfl⟩
theorem validV_eq (F : Nat) (hF : 100000000000000000 ≤ F) (p : SProblem) : ∃ e, plan_Valid F p = some e ∧ chargenetref18_Valid F p = some e ∧ (e = 0 ↔ VP p) := by
 unfold plan_Valid chargenetref18_Valid
 by_cases a1 : 32 < (p.Parents.length : Int)
 ·rw [decide_eq_true a1]; exact ⟨3, rfl, rfl, fun h => absurd h (by decide), fun h => by have := h.np; omega⟩
 by_cases a2 : 48 < (p.Caps.length : Int)
 ·rw [decide_eq_false a1, decide_eq_true a2]; exact ⟨3, rfl, rfl, fun h => absurd h (by decide), fun h => by have := h.nc; omega⟩
 by_cases a3 : 16 < (p.Demands.length : Int)
 ·rw [decide_eq_false a1, decide_eq_false a2, decide_eq_true a3]; exact ⟨3, rfl, rfl, fun h => absurd h (by decide), fun h => by have := h.nd; omega⟩
 have hm : p.Caps.length * p.Parents.length ≤ 48 * 32 := mul_le_of (by omega) (by omega)
 have hm2 : (p.Caps.length : Int) * (p.Parents.length : Int) = ((p.Caps.length * p.Parents.length : Nat) : Int) := by simp
 have w1 : IntKind.wrap .i64 ((p.Caps.length : Int) * (p.Parents.length : Int)) = ((p.Caps.length * p.Parents.length : Nat) : Int) := by rw [hm2, Go.IntWalk.i64_in _ (by omega)]
 have w2 : IntKind.wrap .i64 (2 + (p.Demands.length : Int)) = ((2 + p.Demands.length : Nat) : Int) := by rw [Go.IntWalk.i64_in _ (by omega)]; omega
 have w3 : IntKind.wrap .i64 (((2 + p.Demands.length : Nat) : Int) + ((p.Caps.length * p.Parents.length : Nat) : Int)) = ((2 + p.Demands.length + p.Caps.length * p.Parents.length : Nat) : Int) := by rw [Go.IntWalk.i64_in _ (by omega)]; omega
 rw [decide_eq_false a1, decide_eq_false a2, decide_eq_false a3, w1, w2, w3]
 simp only [cond_false]
 by_cases a4 : 256 < ((2 + p.Demands.length + p.Caps.length * p.Parents.length : Nat) : Int)
 ·rw [decide_eq_true a4]; exact ⟨3, rfl, rfl, fun h => absurd h (by decide), fun h => by have := h.nodes; omega⟩
 by_cases a5 : (p.Parents.length : Int) = 0
 ·rw [decide_eq_false a4, decide_eq_true a5]; exact ⟨1, rfl, rfl, fun h => absurd h (by decide), fun h => by have := h.p0; omega⟩
 rw [decide_eq_false a4, decide_eq_false a5]
 simp only [cond_false]
 unfold plan_forest
 rcases par_v F p (by omega) F 0 (by omega) (by omega) with ⟨h1, h2, f, h3, h4⟩ | ⟨h1, h2, h3⟩
 ·rw [show ((0 : Nat) : Int) = 0 from rfl] at h1 h2
  rw [h1, h2]; exact ⟨1, rfl, rfl, fun h => absurd h (by decide), fun h => absurd (h.par f h3) h4⟩
 rw [show ((0 : Nat) : Int) = 0 from rfl] at h1 h2
 rw [h1, h2]
 unfold plan_forest_p58 chargenetref18_Valid_p104
 rcases cap_v F hF p (by omega) (by omega) F 0 (by omega) (by omega) with ⟨k1, k2, v, k3, k4⟩ | ⟨k1, k2, k3⟩
 ·rw [show ((0 : Nat) : Int) = 0 from rfl] at k1 k2
  rw [k1, k2]; exact ⟨1, rfl, rfl, fun h => absurd h (by decide), fun h => absurd ⟨h.caplen v k3, h.cap v k3⟩ k4⟩
 rw [show ((0 : Nat) : Int) = 0 from rfl] at k1 k2
 rw [k1, k2, Option.bind_some, Bool.not_true, cond_false]
 unfold chargenetref18_Valid_p47
 by_cases b1 : p.From < 0
 ·rw [decide_eq_true b1]; exact ⟨2, rfl, rfl, fun h => absurd h (by decide), fun h => by have := h.from0; have := h.len; have := h.last; omega⟩
 by_cases b2 : 268435456 < p.From
 ·rw [decide_eq_false b1, decide_eq_true b2]; exact ⟨2, rfl, rfl, fun h => absurd h (by decide), fun h => by have := h.from0; have := h.len; have := h.last; omega⟩
 by_cases b3 : p.Length < 1
 ·rw [decide_eq_false b1, decide_eq_false b2, decide_eq_true b3]; exact ⟨2, rfl, rfl, fun h => absurd h (by decide), fun h => by have := h.from0; have := h.len; have := h.last; omega⟩
 by_cases b4 : 1440 < p.Length
 ·rw [decide_eq_false b1, decide_eq_false b2, decide_eq_false b3, decide_eq_true b4]; exact ⟨2, rfl, rfl, fun h => absurd h (by decide), fun h => by have := h.from0; have := h.len; have := h.last; omega⟩
 have hlb : (p.Caps.length : Int) * p.Length ≤ 48 * 1440 ∧ 0 ≤ (p.Caps.length : Int) * p.Length := by
  refine ⟨Int.le_trans (Int.mul_le_mul_of_nonneg_right (show (p.Caps.length : Int) ≤ 48 by omega) (by omega)) (Int.mul_le_mul_of_nonneg_left (by omega) (by decide)), Int.mul_nonneg (by omega) (by omega)⟩
 have w4 : IntKind.wrap .i64 ((p.Caps.length : Int) * p.Length) = (p.Caps.length : Int) * p.Length := Go.IntWalk.i64_in _ (by omega)
 have w5 : IntKind.wrap .i64 (p.From + (p.Caps.length : Int) * p.Length) = p.From + (p.Caps.length : Int) * p.Length := Go.IntWalk.i64_in _ (by omega)
 rw [decide_eq_false b1, decide_eq_false b2, decide_eq_false b3, decide_eq_false b4, w4, w5]
 simp only [cond_false]
 by_cases b5 : 268435456 < p.From + (p.Caps.length : Int) * p.Length
 ·rw [decide_eq_true b5]; exact ⟨2, rfl, rfl, fun h => absurd h (by decide), fun h => by have := h.from0; have := h.len; have := h.last; omega⟩
 rw [decide_eq_false b5, cond_false, cond_false]
 obtain ⟨e, e1, e2, e3⟩ := dem_v p (by omega) F 0 (by omega) (by omega)
 refine ⟨e, e1, e2, fun h => ⟨by omega, by omega, by omega, by omega, by omega, fun f hf => h3 f (by omega) hf, fun t ht => (k3 t (by omega) ht).1, fun t ht => (k3 t (by omega) ht).2, by omega, by omega, by omega, fun i hi => e3.1 h i (by omega) hi⟩, fun h => e3.2 fun j _ hj => h.dem j hj⟩
theorem VP.valid {p : SProblem} (h : VP p) : plan_Valid FF p = some 0 ∧ chargenetref18_Valid FF p = some 0 := by
 obtain ⟨e, h1, h2, h3⟩ := validV_eq FF FF_ge p
 have := h3.2 h
 subst this
 exact ⟨h1, h2⟩
end Go.Proofs.Ytfefnffdocmlmaa.M
