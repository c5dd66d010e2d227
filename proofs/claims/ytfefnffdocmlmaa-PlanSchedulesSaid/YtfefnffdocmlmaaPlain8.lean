/- Plain law of chapter 18: Schedule returns a plan that keeps all limits, or the right error. -/
import Derived.Test.YtfefnffdocmlmaaPlainR
namespace Go.Proofs.Ytfefnffdocmlmaa.M
open Go Go.Proofs Go.Proofs.Ytfefnffdocmlmaa.E Go.Proofs.Ytfefnffdocmlmaa.W
set_option linter.unusedVariables false
set_option linter.unusedSimpArgs false
section
variable {p : SProblem}
def rpos (p : SProblem) (i u : Nat) : Nat := i + (AllU p i).length + 1 + (Us p i u).length
theorem rpos_succ (i u : Nat) : rpos p i (u + 1) = bif us p (D p i) u then rpos p i u + 1 else rpos p i u := by
 unfold rpos
 simp only [Us, List.length_append]
 cases us p (D p i) u <;> simp [Nat.add_assoc]
theorem rsrow_l (h : VP p) (F : Nat) (c : Int × List Int) (hc : p.Demands.length + (AllU p p.Demands.length).length ≤ c.2.length) (nd : Int) (i : Nat) (hi : i < p.Demands.length) (o1 : List (List Int)) (K : Int → Int → Int → List (List Int) → Option (List (List Int) × Int)) : ∀ (k u : Nat) (o : List Int), u ≤ p.Caps.length → p.Caps.length < k + u → o.length = p.Caps.length →
  ∃ o', chargenetref18_Schedule_l130 F p c nd (i : Int) o1 K k (rpos p i u : Int) (u : Int) o = chargenetref18_Schedule_p108 nd (i : Int) o1 K (rpos p i p.Caps.length : Int) o'
 | 0, u, o, h1, h2, _ => by omega
 | k + 1, u, o, h1, h2, ho => by
  have hnc := h.nc
  have hnd := h.nd
  simp only [chargenetref18_Schedule_l130, chargenetref18_Schedule_b130]
  by_cases hu : u < p.Caps.length
  ·have hps := rpos_succ (p := p) i u
   have hpb := pos_bd h (show i ≤ p.Demands.length by omega) (show u ≤ p.Caps.length by omega)
   have hrp : rpos p i u ≤ posU p i u := by unfold rpos posU; omega
   rw [decide_eq_true (show (u : Int) < (p.Caps.length : Int) by omega), cond_true, Int.toNat_natCast, show p.Demands.getD i dSDemand = D p i from rfl, (usable_eq h F (D p i) hu).2, Option.bind_some]
   unfold chargenetref18_Schedule_p134
   rw [wsucc u (by omega)]
   cases hus : us p (D p i) u with
   | true =>
    rw [hus, cond_true] at hps
    have hpl := pos_lt hi hu hus
    rw [cond_true, guard_pos (show (0 : Int) ≤ (rpos p i u : Int) ∧ (rpos p i u : Int) < (c.2.length : Int) by omega), guard_pos (show (0 : Int) ≤ (u : Int) ∧ (u : Int) < (o.length : Int) by omega), wsucc (rpos p i u) (by omega), ← hps]
    exact rsrow_l h F c hc nd i hi o1 K k (u + 1) _ (by omega) (by omega) (by simpa using ho)
   | false =>
    rw [hus, cond_false] at hps
    rw [cond_false, ← hps]
    exact rsrow_l h F c hc nd i hi o1 K k (u + 1) o (by omega) (by omega) ho
  ·have : u = p.Caps.length := by omega
   subst this
   rw [decide_eq_false (show ¬ ((p.Caps.length : Int) < (p.Caps.length : Int)) by omega), cond_false]
   exact ⟨o, rfl⟩
theorem rsrows_l (h : VP p) (F : Nat) (hF : 100000000000000000 ≤ F) (c : Int × List Int) (hc : p.Demands.length + (AllU p p.Demands.length).length ≤ c.2.length) : ∀ (k i : Nat) (o1 : List (List Int)), i ≤ p.Demands.length → p.Demands.length < k + i → o1.length = i →
  ∃ l, chargenetref18_Schedule_l98 F p c k ((i + (AllU p i).length : Nat) : Int) (p.Demands.length : Int) (i : Int) o1 = some (l, 0)
 | 0, i, o1, h1, h2, _ => by omega
 | k + 1, i, o1, h1, h2, ho => by
  have hnc := h.nc
  have hnd := h.nd
  simp only [chargenetref18_Schedule_l98, chargenetref18_Schedule_b98]
  by_cases hi : i < p.Demands.length
  ·have hpb := pos_bd h (show i ≤ p.Demands.length by omega) (Nat.zero_le _)
   have hb : i + (AllU p i).length ≤ 1200 := by unfold posU at hpb; omega
   rw [decide_eq_true (show (i : Int) < (p.Demands.length : Int) by omega), cond_true, guard_pos (show (0 : Int) ≤ (i : Int) ∧ (i : Int) < (p.Demands.length : Int) by omega), guard_pos (by omega), wsucc (i + (AllU p i).length) (by omega), Int.toNat_natCast]
   have e0 : i + (AllU p i).length + 1 = rpos p i 0 := by simp [rpos, Us]
   rw [e0]
   obtain ⟨o', r1⟩ := rsrow_l h F c hc (p.Demands.length : Int) i hi o1 (fun at_53 t33_54 t34_55 o1_56 => chargenetref18_Schedule_l98 F p c k at_53 t33_54 t34_55 o1_56) F 0 (List.replicate p.Caps.length 0) (by omega) (by omega) (by simp)
   rw [show ((0 : Nat) : Int) = 0 from rfl] at r1
   rw [r1]
   unfold chargenetref18_Schedule_p108 chargenetref18_Schedule_p102
   rw [guard_pos (by simp only [List.length_cons, List.length_nil]; omega), wsucc i (by omega)]
   have e1 : rpos p i p.Caps.length = i + 1 + (AllU p (i + 1)).length := by
    unfold rpos
    simp only [AllU, List.length_append]
    omega
   rw [e1]
   exact rsrows_l h F hF c hc k (i + 1) _ (by omega) (by omega) (by simp [ho])
  ·rw [decide_eq_false (show ¬ ((i : Int) < (p.Demands.length : Int)) by omega)]
   exact ⟨o1, rfl⟩
theorem RefD_len2 (e : Nat → Int) : ∀ n, (RefD p e n).length = n + (AllU p n).length
 | 0 => rfl
 | n + 1 => by
  simp only [RefD, AllU, List.length_append, RefD_len2 e n, List.length_singleton]
  omega
theorem rsched_eq (h : VP p) (F : Nat) (hF : 100000000000000000 ≤ F) (e : List Int) :
  (chargenetref18_energies F p e = some 1 → ∃ l, chargenetref18_Schedule F p e = some (l, 1)) ∧
  (chargenetref18_energies F p e = some 0 → e.length = p.Demands.length → enOk e → (¬ Fit p (ev e) → ∃ l, chargenetref18_Schedule F p e = some (l, 3)) ∧ (Fit p (ev e) → ∃ l, chargenetref18_Schedule F p e = some (l, 0))) := by
 have hnd := h.nd
 refine ⟨fun he => ?_, fun he hl hen => ?_⟩
 ·unfold chargenetref18_Schedule
  rw [he]
  exact ⟨_, rfl⟩
 ·obtain ⟨b, b1, b2⟩ := fits_eq h F hF e hl hen
  unfold chargenetref18_Schedule
  rw [he, Option.bind_some, b1]
  simp only [decide_true, Bool.not_true, cond_false, Option.bind_some]
  refine ⟨fun hn => ?_, fun hy => ?_⟩
  ·have hb : b = false := by
    cases b with
    | false => rfl
    | true => exact absurd (b2.1 rfl) hn
   rw [hb]
   exact ⟨_, rfl⟩
  ·rw [b2.2 hy, Bool.not_true, cond_false]
   obtain ⟨v, ll, f1, f2, _⟩ := flows_eq h F hF e hl hen
   rw [f1, Option.bind_some]
   have := rsrows_l h F hF (v, ll) (by
    rw [f2]
    unfold RA
    rw [List.length_append, RefD_len2]
    omega) F 0 [] (by omega) (by omega) rfl
   exact this
end
theorem plain_chargenetlaw18_PlanSchedules (a0 : SProblem) (a1 : List Int) (w0 : okSProblem a0) (w1 : okVec (fun x : Int => (Lit.int .i64 x).wf = true) a1) : ∃ F, chargenetlaw18_PlanSchedules F a0 a1 = some true := by
 refine ⟨FF, ?_⟩
 obtain ⟨b, h1, h2⟩ := small_eq FF FF_ge a0
 unfold chargenetlaw18_PlanSchedules
 rw [h1, ex_ok, Option.bind_some, Option.bind_some]
 cases b with
 | false => rfl
 | true =>
  obtain ⟨hp, hv, hv2, _⟩ := h2 rfl
  rw [Bool.not_true, cond_false]
  by_cases c1 : 10 < (a1.length : Int)
  ·rw [decide_eq_true c1]; rfl
  rw [decide_eq_false c1, cond_false]
  obtain ⟨l, r, s1, s2⟩ := psched_eq hp FF FF_ge hv hv2 a1
  obtain ⟨t1, t2⟩ := rsched_eq hp FF FF_ge a1
  rw [s1]
  rcases s2 with ⟨rfl, rfl, s3⟩ | ⟨rfl, rfl, s3, s4, s5, s6⟩ | ⟨rfl, s3, s4, s5, s6, s7⟩
  ·obtain ⟨l', q⟩ := t1 s3
   rw [q]
   rfl
  ·obtain ⟨l', q⟩ := (t2 s5 s3 s4).1 s6
   rw [q]
   rfl
  ·obtain ⟨l', q⟩ := (t2 s5 s3 s4).2 s6
   obtain ⟨b, b1, b2, b3⟩ := checks_eq hp FF FF_ge hv hv2 a1 l
   have hb : b = true := b3.2 s7
   rw [q]
   simp only [Option.bind_some, decide_true, Bool.not_true, cond_false]
   rw [b2, b1, hb]
   rfl
end Go.Proofs.Ytfefnffdocmlmaa.M
