/- The plain law of AccessDenies: a further grant of a denying role allows nothing, and one of another role denies nothing. -/
import Derived.Test.YtggfgdohbeoabaaPlainD
namespace Go.Proofs.Ytggfgdohbeoabaa.M
open Go Go.Proofs.Ytggfgdohbeoabaa.E Go.Proofs.Ytggfgdohbeoabaa.W
set_option linter.unusedVariables false
set_option linter.unusedSimpArgs false

theorem deny_l (roles : List SRole) (hl : roles.length ≤ 40) (s : ByteArray) : ∀ (n i : Nat), i ≤ roles.length → roles.length < n + i → chargenetlaw39_deny_l11 roles s n (i : Int) = some (match (roles.drop i).find? (fun x => sEq s x.Name) with | some r => r.Deny | none => false)
  | 0, i, h1, h2 => by omega
  | n + 1, i, h1, h2 => by
    simp only [chargenetlaw39_deny_l11, chargenetlaw39_deny_b11]
    by_cases hi : i < roles.length
    · have e1 : decide ((i : Int) < (roles.length : Int)) = true := by simpa using hi
      rw [e1, cond_true, guard_pos (by omega), getD_nat roles _ i hi, sEq_comm, guard_pos (by omega), wsucc i (by omega), deny_l roles hl s n (i + 1) (by omega) (by omega), List.drop_eq_getElem_cons hi, List.find?_cons]
      cases sEq s roles[i].Name <;> rfl
    · have e1 : decide ((i : Int) < (roles.length : Int)) = false := by simp; omega
      rw [e1, cond_false, List.drop_eq_nil_of_le (by omega)]; rfl

theorem plain_chargenetlaw39_AccessDenies (a0 : SCase) (a1 : SGrant) (a2 : SAsk) (w0 : okSCase a0) (w1 : okSGrant a1) (w2 : okSAsk a2) : ∃ F, chargenetlaw39_AccessDenies F a0 a1 a2 = some true := by
  refine ⟨1000, ?_⟩
  unfold chargenetlaw39_AccessDenies
  rw [example_ok]
  rcases small_eq a0 with h | ⟨h, hs, h3⟩
  · rw [h]; rfl
  · rw [h, give_eq _ _ hs h3]
    by_cases h0 : vE a0.Roles a0.Grants = 0
    · by_cases h1 : vE a0.Roles (a0.Grants ++ [a1]) = 0
      · have hs2 : small a0.Roles (a0.Grants ++ [a1]) := ⟨hs.1, by simp; omega, hs.2.2⟩
        have hd := deny_l a0.Roles hs.1 a1.Role 1000 0 (by omega) (by have := hs.1; omega)
        simp only [Int.natCast_zero, List.drop_zero] at hd
        obtain ⟨r, hr, _⟩ := role_of_has a0.Roles a1.Role (valid_has a0.Roles _ h1 a1 (by simp))
        have hr' := hr
        unfold roleOf at hr'
        rw [hr'] at hd
        rw [if_neg (by simpa using h0), if_neg (by simpa using h1)]
        simp only [Option.bind_some, Bool.not_true, cond_false, decide_true]
        rw [allowed_eq _ _ hs, allowed_eq _ _ hs2, if_pos h0, if_pos h1]
        unfold chargenetlaw39_deny
        rw [hd]
        simp only [Option.bind_some]
        unfold alS
        rw [List.any_append, List.any_append]
        have e1 : [a1].any (den a0.Roles a2.User a2.Action a2.Object a2.Now) = (app a2.User a2.Now a1 && (covS r a2.Action a2.Object && r.Deny)) := by
          simp [den, hr]
        have e2 : [a1].any (alw a0.Roles a2.User a2.Action a2.Object a2.Now) = (app a2.User a2.Now a1 && (covS r a2.Action a2.Object && !r.Deny)) := by
          simp [alw, hr]
        rw [e1, e2]
        rcases Bool.eq_false_or_eq_true r.Deny with q1 | q1 <;> rcases Bool.eq_false_or_eq_true (a0.Grants.any (den a0.Roles a2.User a2.Action a2.Object a2.Now)) with q2 | q2 <;>
          rcases Bool.eq_false_or_eq_true (a0.Grants.any (alw a0.Roles a2.User a2.Action a2.Object a2.Now)) with q3 | q3 <;> rcases Bool.eq_false_or_eq_true (app a2.User a2.Now a1) with q4 | q4 <;> rcases Bool.eq_false_or_eq_true (covS r a2.Action a2.Object) with q5 | q5 <;>
          simp only [q1, q2, q3, q4, q5] <;> rfl
      · rw [if_neg (by simpa using h0), if_pos (by simpa using h1)]
        simp [h1]
    · rw [if_pos (by simpa using h0)]
      simp [h0]
end Go.Proofs.Ytggfgdohbeoabaa.M
