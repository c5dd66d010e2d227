/- Plain law SettleOwes: Owed returns what the reference returns. -/
import Derived.Test.YtoncfkdgddfnlaaPlainM
import Derived.Test.YtoncfkdgddfnlaaPlainN
namespace Go.Proofs.Ytoncfkdgddfnlaa.M
open Go Go.Proofs.Ytoncfkdgddfnlaa.E Go.Proofs.Ytoncfkdgddfnlaa.W
set_option linter.unusedVariables false
theorem plain_chargenetlaw49_SettleOwes (a0 : SCase) (w0 : okSCase a0) : ∃ F, chargenetlaw49_SettleOwes F a0 = some true := by
 refine ⟨bigF a0, ?_⟩
 have hF : 1000 ≤ bigF a0 := by unfold bigF; omega
 unfold chargenetlaw49_SettleOwes
 rcases small_eq a0 w0.1.1 (bigF a0) (by unfold bigF; omega) with e | ⟨e, hs⟩
 ·rw [e, Option.bind_some, Bool.not_false, cond_true, example_F _ hF]; rfl
 ·have ht : ∀ c ∈ a0.CDRs, -9223372036854775808 ≤ c.Total ∧ c.Total ≤ 9223372036854775807 := fun c hc => by
   obtain ⟨_, _, _, _, _, _, _, _, _, _, _, h, _⟩ := w0.1.2 c hc
   exact wfT h
  have hc : ∀ c ∈ a0.CDRs, c.Currency.size < bigF a0 ∧ c.Currency.size ≤ 9223372036854775807 := fun c hc => by
   obtain ⟨_, _, _, _, _, _, _, _, _, h, _⟩ := w0.1.2 c hc
   have := sum_mem a0.CDRs c hc
   exact ⟨by unfold bigF; omega, h⟩
  have h1 := hs.l
  have h2 := hs.ds
  rw [e, Option.bind_some, Bool.not_true, cond_false, owed_eq _ hF _ (by omega) hs.it ht _ (by omega), Option.bind_some, ref_owed_eq _ hF _ (by omega) hs.it hc ht _ (by omega), Option.bind_some]
  simp
end Go.Proofs.Ytoncfkdgddfnlaa.M
