/- Plain laws of chapter 39: Take, Give, Same. -/
import Derived.Test.YtggfgdohbeoabaaPlainC
namespace Go.Proofs.Ytggfgdohbeoabaa.M
open Go Go.Proofs.Ytggfgdohbeoabaa.E Go.Proofs.Ytggfgdohbeoabaa.W
set_option linter.unusedVariables false
set_option linter.unusedSimpArgs false

theorem same_l (a : List SGrant) (hl : a.length ≤ 900) : ∀ (n i : Nat), i ≤ a.length → a.length < n + i → chargenetref39_Same_l12 a a n (i : Int) = some true
  | 0, i, h1, h2 => by omega
  | n + 1, i, h1, h2 => by
    simp only [chargenetref39_Same_l12, chargenetref39_Same_b12]
    by_cases hi : i < a.length
    · have e1 : decide ((i : Int) < (a.length : Int)) = true := by simpa using hi
      rw [e1, cond_true, guard_pos (by omega), guard_pos (by omega), wsucc i (by omega), same_l a hl n (i + 1) (by omega) (by omega)]
      simp [sEq_self]
    · have e1 : decide ((i : Int) < (a.length : Int)) = false := by simp; omega
      rw [e1]; rfl
theorem same_self (a : List SGrant) (hl : a.length ≤ 900) : chargenetref39_Same 1000 a a = some true := by
  have := same_l a hl 1000 0 (by omega) (by omega)
  simp only [Int.natCast_zero] at this
  unfold chargenetref39_Same
  rw [this]; simp

theorem clone_eq (a : List SGrant) (h : a.length ≤ 900) : slices_Clone_api_Grant_api_Grant_own 1000 a = some a := by
  unfold slices_Clone_api_Grant_api_Grant_own
  rw [guard_pos (by simp; omega)]; rfl

def cut (g : SGrant) (t : Int) : SGrant := SGrant.mk g.User g.Role g.Span_From t
def fits (u r : ByteArray) (t : Int) (g : SGrant) : Bool := sEq g.User u && (sEq g.Role r && holdsS g t)

/-- What Take returns, if the time is right. -/
def takeS (grants : List SGrant) (u r : ByteArray) (t : Int) : Nat → List SGrant × Int
  | i => if h : i < grants.length then (if fits u r t grants[i] then (grants.set i (cut grants[i] t), 0) else takeS grants u r t (i + 1)) else (grants, 8)
termination_by i => grants.length - i

theorem take_l (grants : List SGrant) (hl : grants.length ≤ 300) (u r : ByteArray) (t : Int) : ∀ (n i : Nat), i ≤ grants.length → grants.length < n + i → access_Take_l29 1000 grants u r t n (i : Int) = some (takeS grants u r t i)
  | 0, i, h1, h2 => by omega
  | n + 1, i, h1, h2 => by
    rw [takeS]
    simp only [access_Take_l29, access_Take_b29]
    by_cases hi : i < grants.length
    · have e1 : decide ((i : Int) < (grants.length : Int)) = true := by simpa using hi
      have h37 : ∀ b, access_Take_p37 1000 grants t (i : Int) (fun t22_16 => access_Take_l29 1000 grants u r t n t22_16) b = some (if b then (grants.set i (cut grants[i] t), 0) else takeS grants u r t (i + 1)) := by
        intro b
        unfold access_Take_p37
        rw [clone_eq grants (by omega), Option.bind_some, guard_pos (by omega), wsucc i (by omega), getD_nat grants _ i hi, Int.toNat_natCast]
        have ih := take_l grants hl u r t n (i + 1) (by omega) (by omega)
        simp only [ih]
        cases b <;> rfl
      rw [e1, cond_true, guard_pos (by omega), getD_nat grants _ i hi, holds_eq, dif_pos hi]
      simp only [Option.bind_some, h37]
      have hf : fits u r t grants[i] = (sEq grants[i].User u && (sEq grants[i].Role r && decide (grants[i].Span_From ≤ t ∧ (grants[i].Span_To = -1 ∨ t < grants[i].Span_To)))) := rfl
      rw [hf]
      rcases Bool.eq_false_or_eq_true (sEq grants[i].User u) with q1 | q1 <;> rcases Bool.eq_false_or_eq_true (sEq grants[i].Role r) with q2 | q2 <;>
        rcases Bool.eq_false_or_eq_true (decide (grants[i].Span_From ≤ t ∧ (grants[i].Span_To = -1 ∨ t < grants[i].Span_To))) with q3 | q3 <;> simp only [q1, q2, q3] <;> simp
    · have e1 : decide ((i : Int) < (grants.length : Int)) = false := by simp; omega
      rw [e1, cond_false, dif_neg hi]; rfl

theorem ref_take_l (grants : List SGrant) (hl : grants.length ≤ 300) (u r : ByteArray) (t : Int) : ∀ (n i : Nat), i ≤ grants.length → grants.length < n + i → chargenetref39_Take_l28 1000 grants u r t n (i : Int) = some (takeS grants u r t i)
  | 0, i, h1, h2 => by omega
  | n + 1, i, h1, h2 => by
    rw [takeS]
    simp only [chargenetref39_Take_l28, chargenetref39_Take_b28]
    by_cases hi : i < grants.length
    · have e1 : decide ((i : Int) < (grants.length : Int)) = true := by simpa using hi
      have h35 : ∀ b, chargenetref39_Take_p35 grants t (i : Int) (fun i_16 => chargenetref39_Take_l28 1000 grants u r t n i_16) b = some (if b then (grants.set i (cut grants[i] t), 0) else takeS grants u r t (i + 1)) := by
        intro b
        unfold chargenetref39_Take_p35
        rw [List.nil_append, guard_pos (by simp; omega), guard_pos (by omega), wsucc i (by omega), getD_nat grants _ i hi, Int.toNat_natCast]
        have ih := ref_take_l grants hl u r t n (i + 1) (by omega) (by omega)
        simp only [ih]
        cases b <;> rfl
      rw [e1, cond_true, guard_pos (by omega), getD_nat grants _ i hi, ref_holds_eq, dif_pos hi]
      simp only [Option.bind_some, h35]
      have hf : fits u r t grants[i] = (sEq grants[i].User u && (sEq grants[i].Role r && holdsS grants[i] t)) := rfl
      rw [hf]
      rcases Bool.eq_false_or_eq_true (sEq grants[i].User u) with q1 | q1 <;> rcases Bool.eq_false_or_eq_true (sEq grants[i].Role r) with q2 | q2 <;>
        rcases Bool.eq_false_or_eq_true (holdsS grants[i] t) with q3 | q3 <;> simp only [q1, q2, q3] <;> simp
    · have e1 : decide ((i : Int) < (grants.length : Int)) = false := by simp; omega
      rw [e1, cond_false, dif_neg hi]; rfl

theorem take_shape (grants : List SGrant) (u r : ByteArray) (t : Int) : ∀ (n i : Nat), grants.length - i = n → ((takeS grants u r t i).2 ≠ 0 ∧ (takeS grants u r t i).1 = grants) ∨ ((takeS grants u r t i).2 = 0 ∧ ∃ j, ∃ h : j < grants.length, fits u r t grants[j] = true ∧ (takeS grants u r t i).1 = grants.set j (cut grants[j] t)) := by
  intro n
  induction n with
  | zero =>
    intro i h
    rw [takeS, dif_neg (by omega)]
    refine .inl ⟨fun h => ?_, rfl⟩
    cases h
  | succ n ih =>
    intro i h
    rw [takeS, dif_pos (by omega)]
    by_cases hf : fits u r t grants[i] = true
    · rw [if_pos hf]
      exact .inr ⟨rfl, i, by omega, hf, rfl⟩
    · rw [if_neg hf]
      exact ih (i + 1) (by omega)

theorem take_eq (grants : List SGrant) (hl : grants.length ≤ 300) (u r : ByteArray) (t : Int) : access_Take 1000 grants u r t = some (if 0 ≤ t ∧ t ≤ 268435456 then takeS grants u r t 0 else (grants, 2)) := by
  have h := take_l grants hl u r t 1000 0 (by omega) (by omega)
  simp only [Int.natCast_zero] at h
  unfold access_Take
  rw [h]
  by_cases h1 : t < 0 <;> by_cases h2 : 268435456 < t <;> simp [h1, h2, Int.not_le.2, Int.not_lt.1] <;> (try omega)

theorem ref_take_eq (grants : List SGrant) (hl : grants.length ≤ 300) (u r : ByteArray) (t : Int) : chargenetref39_Take 1000 grants u r t = some (if 0 ≤ t ∧ t ≤ 268435456 then takeS grants u r t 0 else (grants, 2)) := by
  have h := ref_take_l grants hl u r t 1000 0 (by omega) (by omega)
  simp only [Int.natCast_zero] at h
  unfold chargenetref39_Take chargenetref02_Right
  rw [h]
  by_cases h1 : 0 ≤ t <;> by_cases h2 : t ≤ 268435456 <;> simp [h1, h2]

theorem give_eq (roles : List SRole) (grants : List SGrant) (hs : small roles grants) (h3 : grants.length ≤ 300) (g : SGrant) : access_Give 1000 roles grants g = some (if vE roles grants ≠ 0 then ([], vE roles grants) else if vE roles (grants ++ [g]) ≠ 0 then ([], vE roles (grants ++ [g])) else (grants ++ [g], 0)) := by
  have hs2 : small roles (grants ++ [g]) := ⟨hs.1, by simp; omega, hs.2.2⟩
  unfold access_Give
  have w1 : IntKind.wrap .i64 ((grants.length : Int) + 1) = ((grants.length + 1 : Nat) : Int) := wsucc _ (by omega)
  have e : copyL (List.replicate (((grants).length : Int)).toNat dSGrant) 0 ((List.replicate (((grants).length : Int)).toNat dSGrant).length) grants = grants := by
    unfold copyL
    simp
  rw [valid_eq roles grants hs, Option.bind_some, w1, e, guard_pos (by omega), guard_pos (by simp; omega), valid_eq roles _ hs2, Option.bind_some]
  by_cases h0 : vE roles grants = 0 <;> by_cases h1 : vE roles (grants ++ [g]) = 0 <;> simp [h0, h1]
end Go.Proofs.Ytggfgdohbeoabaa.M
