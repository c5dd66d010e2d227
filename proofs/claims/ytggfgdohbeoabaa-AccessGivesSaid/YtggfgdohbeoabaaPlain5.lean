/- The plain law of AccessGives: both functions Give return the same. -/
import Derived.Test.YtggfgdohbeoabaaPlainD
namespace Go.Proofs.Ytggfgdohbeoabaa.M
open Go Go.Proofs.Ytggfgdohbeoabaa.E Go.Proofs.Ytggfgdohbeoabaa.W
set_option linter.unusedVariables false

theorem ref_give_eq (roles : List SRole) (grants : List SGrant) (hs : small roles grants) (h3 : grants.length ≤ 300) (g : SGrant) : chargenetref39_Give 1000 roles grants g = some (if vE roles grants ≠ 0 then ([], vE roles grants) else if vE roles (grants ++ [g]) ≠ 0 then ([], vE roles (grants ++ [g])) else (grants ++ [g], 0)) := by
  have hs2 : small roles (grants ++ [g]) := ⟨hs.1, by simp; omega, hs.2.2⟩
  unfold chargenetref39_Give
  rw [ref_valid_eq roles grants hs, Option.bind_some, List.nil_append, guard_pos (by simp; omega), guard_pos (by simp; omega), ref_valid_eq roles _ hs2, Option.bind_some]
  by_cases h0 : vE roles grants = 0 <;> by_cases h1 : vE roles (grants ++ [g]) = 0 <;> simp [h0, h1]

theorem plain_chargenetlaw39_AccessGives (a0 : SCase) (a1 : SGrant) (w0 : okSCase a0) (w1 : okSGrant a1) : ∃ F, chargenetlaw39_AccessGives F a0 a1 = some true := by
  refine ⟨1000, ?_⟩
  unfold chargenetlaw39_AccessGives
  rw [example_ok]
  rcases small_eq a0 with h | ⟨h, hs, h3⟩
  · rw [h]; rfl
  · rw [h, give_eq _ _ hs h3, ref_give_eq _ _ hs h3]
    have hlen : (if vE a0.Roles a0.Grants ≠ 0 then ([], vE a0.Roles a0.Grants) else if vE a0.Roles (a0.Grants ++ [a1]) ≠ 0 then ([], vE a0.Roles (a0.Grants ++ [a1])) else (a0.Grants ++ [a1], (0 : Int))).1.length ≤ 900 := by
      split
      · simp
      · split
        · simp
        · simp; omega
    simp only [Option.bind_some, Bool.not_true, cond_false]
    rw [same_self _ hlen]
    simp
end Go.Proofs.Ytggfgdohbeoabaa.M
