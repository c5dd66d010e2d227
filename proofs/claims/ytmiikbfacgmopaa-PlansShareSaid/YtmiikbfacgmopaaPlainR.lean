/- Plain laws of chapter 18: Schedule, and the reference's Schedule. -/
import Derived.Test.YtmiikbfacgmopaaPlainQ
namespace Go.Proofs.Ytmiikbfacgmopaa.M
open Go Go.Proofs Go.Proofs.Ytmiikbfacgmopaa.E Go.Proofs.Ytmiikbfacgmopaa.W
set_option linter.unusedVariables false
set_option linter.unusedSimpArgs false
section
variable {p : SProblem}
theorem pos_succ (i u : Nat) : posU p i (u + 1) = bif us p (D p i) u then posU p i u + 1 else posU p i u := by
 unfold posU
 simp only [Us, List.length_append]
 cases us p (D p i) u <;> simp [Nat.add_assoc]
theorem pos_next (i : Nat) : posU p (i + 1) 0 = posU p i p.Caps.length := by
 unfold posU
 simp only [AllU, Us, List.length_append, List.length_nil]
 omega
theorem pos_bd (h : VP p) {i u : Nat} (hi : i ≤ p.Demands.length) (hu : u ≤ p.Caps.length) : posU p i u ≤ 1100 := by
 have h1 := AllU_len p i
 have h2 := Us_len p i u
 have h3 : i * p.Caps.length ≤ 16 * 48 := Nat.mul_le_mul (by have := h.nd; omega) h.nc
 have := h.nd
 have := h.nc
 unfold posU
 omega
theorem Us_mono (i : Nat) {u n : Nat} (h : u ≤ n) : (Us p i u).length ≤ (Us p i n).length := by
 induction n with
 | zero => rw [Nat.le_zero.1 h]; exact Nat.le_refl _
 | succ n ih =>
  by_cases hn : u = n + 1
  ·rw [hn]; exact Nat.le_refl _
  ·simp only [Us, List.length_append]
   have := ih (by omega)
   omega
theorem AllU_mono {i n : Nat} (h : i ≤ n) : (AllU p i).length ≤ (AllU p n).length := by
 induction n with
 | zero => rw [Nat.le_zero.1 h]; exact Nat.le_refl _
 | succ n ih =>
  by_cases hn : i = n + 1
  ·rw [hn]; exact Nat.le_refl _
  ·simp only [AllU, List.length_append]
   have := ih (by omega)
   omega
theorem pos_lt {i u : Nat} (hi : i < p.Demands.length) (hu : u < p.Caps.length) (hus : us p (D p i) u = true) : posU p i u < p.Demands.length + (AllU p p.Demands.length).length := by
 have h1 := AllU_mono (p := p) (show i + 1 ≤ p.Demands.length by omega)
 have h2 := Us_mono (p := p) i (show u + 1 ≤ p.Caps.length by omega)
 simp only [AllU, List.length_append] at h1
 simp only [Us, List.length_append, hus, cond_true, List.length_singleton] at h2
 unfold posU
 omega
theorem srow_l (h : VP p) (F : Nat) (c : List Int × Bool × List SArc) (hc : p.Demands.length + (AllU p p.Demands.length).length ≤ c.1.length) (i : Nat) (hi : i < p.Demands.length) (K : Int → Int → List (List Int) → Option (List (List Int) × Int)) : ∀ (k u : Nat) (o : List (List Int)), u ≤ p.Caps.length → p.Caps.length < k + u →
  o.length = p.Demands.length → (o.getD i []).length = p.Caps.length → (∀ v, v < u → X o i v = give p c.1 i v) → (∀ v, u ≤ v → X o i v = 0) →
  ∃ o', plan_Schedule_l154 F p c (i : Int) K k (posU p i u : Int) (u : Int) o = plan_Schedule_p120 (i : Int) K (posU p i p.Caps.length : Int) o' ∧ o'.length = p.Demands.length ∧ (∀ j, j ≠ i → o'.getD j [] = o.getD j []) ∧ (o'.getD i []).length = p.Caps.length ∧ ∀ v, v < p.Caps.length → X o' i v = give p c.1 i v
 | 0, u, o, h1, h2, _, _, _, _ => by omega
 | k + 1, u, o, h1, h2, ho, hr, hg, h0 => by
  have hnc := h.nc
  have hnd := h.nd
  simp only [plan_Schedule_l154, plan_Schedule_b154]
  by_cases hu : u < p.Caps.length
  ·have hps := pos_succ (p := p) i u
   have hpb := pos_bd h (show i ≤ p.Demands.length by omega) (show u ≤ p.Caps.length by omega)
   rw [decide_eq_true (show (u : Int) < (p.Caps.length : Int) by omega), cond_true, Int.toNat_natCast, show p.Demands.getD i dSDemand = D p i from rfl, (usable_eq h F (D p i) hu).1, Option.bind_some]
   unfold plan_Schedule_p158
   rw [wsucc u (by omega)]
   cases hus : us p (D p i) u with
   | true =>
    rw [hus, cond_true] at hps
    have hpl := pos_lt hi hu hus
    have g1 : (0 : Int) ≤ (i : Int) ∧ (i : Int) < (o.length : Int) := by omega
    rw [cond_true, guard_pos g1, guard_pos g1, guard_pos (show (0 : Int) ≤ (posU p i u : Int) ∧ (posU p i u : Int) < (c.1.length : Int) by omega), guard_pos (show (0 : Int) ≤ (u : Int) ∧ (u : Int) < ((o.getD i []).length : Int) by omega), wsucc (posU p i u) (by omega), ← hps, Int.toNat_natCast, Int.toNat_natCast]
    obtain ⟨o1, ho1⟩ : ∃ o1, o1 = o.set i ((o.getD i []).set u (c.1.getD (posU p i u) 0)) := ⟨_, rfl⟩
    rw [← ho1]
    have e1 : o1.getD i [] = (o.getD i []).set u (c.1.getD (posU p i u) 0) := by rw [ho1, getD_set, if_pos ⟨rfl, by omega⟩]
    have e2 : ∀ j, j ≠ i → o1.getD j [] = o.getD j [] := fun j hj => by rw [ho1, getD_set, if_neg (fun hh => hj hh.1)]
    have e3 : ∀ v, X o1 i v = if v = u then c.1.getD (posU p i u) 0 else X o i v := fun v => by
     unfold X
     rw [e1, getD_set]
     by_cases hv : v = u
     ·rw [if_pos ⟨hv, by omega⟩, if_pos hv]
     ·rw [if_neg (fun hh => hv hh.1), if_neg hv]
    obtain ⟨o', r1, r2, r3, r4, r5⟩ := srow_l h F c hc i hi K k (u + 1) o1 (by omega) (by omega) (by rw [ho1]; simpa using ho) (by rw [e1]; simpa using hr) (fun v hv => by
      rw [e3]
      by_cases hvu : v = u
      ·rw [if_pos hvu, hvu]
       unfold give
       rw [hus]
       rfl
      ·rw [if_neg hvu]; exact hg v (by omega)) (fun v hv => by rw [e3, if_neg (by omega)]; exact h0 v (by omega))
    exact ⟨o', r1, r2, fun j hj => (r3 j hj).trans (e2 j hj), r4, r5⟩
   | false =>
    rw [hus, cond_false] at hps
    rw [cond_false, ← hps]
    exact srow_l h F c hc i hi K k (u + 1) o (by omega) (by omega) ho hr (fun v hv => by
     by_cases hvu : v = u
     ·rw [hvu, h0 u (Nat.le_refl _)]
      unfold give
      rw [hus]
      rfl
     ·exact hg v (by omega)) (fun v hv => h0 v (by omega))
  ·have : u = p.Caps.length := by omega
   subst this
   rw [decide_eq_false (show ¬ ((p.Caps.length : Int) < (p.Caps.length : Int)) by omega), cond_false]
   exact ⟨o, rfl, ho, fun _ _ => rfl, hr, hg⟩
theorem srows_l (h : VP p) (F : Nat) (hF : 100000000000000000 ≤ F) (c : List Int × Bool × List SArc) (hc : p.Demands.length + (AllU p p.Demands.length).length ≤ c.1.length) : ∀ (k i : Nat) (o : List (List Int)), i ≤ p.Demands.length → p.Demands.length < k + i → o.length = p.Demands.length →
  (∀ j, j < i → (o.getD j []).length = p.Caps.length ∧ ∀ v, v < p.Caps.length → X o j v = give p c.1 j v) →
  ∃ l, plan_Schedule_l116 F p c k (posU p i 0 : Int) (i : Int) o = some (l, 0) ∧ l.length = p.Demands.length ∧ ∀ j, j < p.Demands.length → (l.getD j []).length = p.Caps.length ∧ ∀ v, v < p.Caps.length → X l j v = give p c.1 j v
 | 0, i, o, h1, h2, _, _ => by omega
 | k + 1, i, o, h1, h2, ho, hg => by
  have hnc := h.nc
  have hnd := h.nd
  simp only [plan_Schedule_l116, plan_Schedule_b116]
  by_cases hi : i < p.Demands.length
  ·have g1 : (0 : Int) ≤ (i : Int) ∧ (i : Int) < (o.length : Int) := by omega
   rw [decide_eq_true (show (i : Int) < (p.Demands.length : Int) by omega), cond_true, guard_pos (show (0 : Int) ≤ (i : Int) ∧ (i : Int) < (p.Demands.length : Int) by omega), guard_pos g1, guard_pos (by omega), guard_pos g1, Int.toNat_natCast, Int.toNat_natCast]
   have e1 : (o.set i (List.replicate p.Caps.length (0 : Int))).getD i [] = List.replicate p.Caps.length 0 := by rw [getD_set, if_pos ⟨rfl, by omega⟩]
   obtain ⟨o', r1, r2, r3, r4, r5⟩ := srow_l h F c hc i hi (fun next_63 t39_64 o1_65 => plan_Schedule_l116 F p c k next_63 t39_64 o1_65) F 0 (o.set i (List.replicate p.Caps.length 0)) (by omega) (by omega) (by simpa using ho) (by rw [e1]; simp) (fun v hv => by omega) (fun v _ => by unfold X; rw [e1, getD_rep])
   rw [show ((0 : Nat) : Int) = 0 from rfl] at r1
   rw [r1]
   unfold plan_Schedule_p120
   rw [wsucc i (by omega), ← pos_next]
   refine srows_l h F hF c hc k (i + 1) o' (by omega) (by omega) r2 (fun j hj => ?_)
   by_cases hji : j = i
   ·subst hji; exact ⟨r4, r5⟩
   ·have e2 : o'.getD j [] = o.getD j [] := by rw [r3 j hji, getD_set, if_neg (fun hh => hji hh.1)]
    obtain ⟨q1, q2⟩ := hg j (by omega)
    refine ⟨by rw [e2]; exact q1, fun v hv => ?_⟩
    rw [← q2 v hv]
    unfold X
    rw [e2]
  ·rw [decide_eq_false (show ¬ ((i : Int) < (p.Demands.length : Int)) by omega)]
   exact ⟨o, rfl, ho, fun j hj => hg j (by omega)⟩
theorem psched_eq (h : VP p) (F : Nat) (hF : 100000000000000000 ≤ F) (hv : plan_Valid F p = some 0) (hv2 : chargenetref18_Valid F p = some 0) (e : List Int) : ∃ l r, plan_Schedule F p e = some (l, r) ∧
  ((r = 1 ∧ l = [] ∧ chargenetref18_energies F p e = some 1) ∨ (r = 3 ∧ l = [] ∧ e.length = p.Demands.length ∧ enOk e ∧ chargenetref18_energies F p e = some 0 ∧ ¬ Fit p (ev e)) ∨
   (r = 0 ∧ e.length = p.Demands.length ∧ enOk e ∧ chargenetref18_energies F p e = some 0 ∧ Fit p (ev e) ∧ planOk p e l)) := by
 have hnd := h.nd
 obtain ⟨r, r1, r2, r3, r4⟩ := energies_eq h F hF hv hv2 e
 unfold plan_Schedule
 rw [r1, Option.bind_some]
 rcases r3 with rfl | rfl
 ·obtain ⟨hl, hen⟩ := r4.1 rfl
  obtain ⟨fl, ok, q1, q2, q3⟩ := route_eq h F hF (fun _ => 0) e hl hen
  simp only [decide_true, Bool.not_true, cond_false]
  rw [network_eq h F hF, Option.bind_some, q1, Option.bind_some]
  simp only
  rw [guard_pos (by unfold PA; simp only [List.length_append, Src_len])]
  cases ok with
  | false =>
   rw [Bool.not_false, cond_true]
   exact ⟨_, _, rfl, .inr (.inl ⟨rfl, rfl, hl, hen, r2, fun hh => absurd (q2.2 hh) (by decide)⟩)⟩
  | true =>
   have hth := q3 rfl
   have hlen := hth.1
   have hAl : p.Demands.length + (AllU p p.Demands.length).length ≤ fl.length := by
    rw [hlen]
    unfold PA
    simp only [List.length_append, Src_len]
    omega
   rw [Bool.not_true, cond_false, guard_pos (by omega), Int.toNat_natCast]
   obtain ⟨l, s1, s2, s3⟩ := srows_l h F hF (fl, true, PA p (ev e)) hAl F 0 (List.replicate p.Demands.length []) (by omega) (by omega) (by simp) (fun j hj => by omega)
   have hp0 : posU p 0 0 = p.Demands.length := by simp [posU, AllU, Us]
   rw [hp0, show ((0 : Nat) : Int) = 0 from rfl] at s1
   exact ⟨l, 0, s1, .inr (.inr ⟨rfl, hl, hen, r2, q2.1 rfl, through_plan h F hF e hl hen fl hth l s2 (fun i hi => (s3 i hi).1) (fun i hi => (s3 i hi).2)⟩)⟩
 ·exact ⟨_, _, rfl, .inl ⟨rfl, rfl, r2⟩⟩
end
end Go.Proofs.Ytmiikbfacgmopaa.M
