/- The plain law of ComposeAts: At and Why return what the reference returns. -/
import Derived.Test.YtjpooimkhkhgkaaPlainB
namespace Go.Proofs.Ytjpooimkhkhgkaa.M
open Go Go.Proofs.Ytjpooimkhkhgkaa.E Go.Proofs.Ytjpooimkhkhgkaa.W
set_option linter.unusedVariables false

theorem plain_chargenetlaw16_ComposeAts (a0 : SQuery) (w0 : okSQuery a0) : ∃ F, chargenetlaw16_ComposeAts F a0 = some true := by
  refine ⟨300000060, ?_⟩
  unfold chargenetlaw16_ComposeAts
  rw [example_ok]
  rcases good_eq a0 with h | ⟨h, hg⟩
  · rw [h]; rfl
  · have hl : a0.L.length ≤ 100 := by have := hg.len; omega
    have hs : -9223372036854775808 ≤ a0.Start ∧ a0.Start ≤ 9223372036854775807 := by have := hg.start; omega
    have ht : -9223372036854775808 ≤ a0.T ∧ a0.T ≤ 9223372036854775807 := by have := hg.t; omega
    have hw : compose_Why 300000060 a0.L a0.Conn a0.Txn a0.Start a0.T = some (oI (dec (a0.L.filter (cdB a0.Conn a0.Txn)) a0.Start a0.T), (dec (a0.L.filter (cdB a0.Conn a0.Txn)) a0.Start a0.T).isSome) := by
      unfold compose_Why
      rw [cands_eq a0.L hl, Option.bind_some, determining_eq _ (Nat.le_trans (List.length_filter_le _ _) hl) (fun p hp => hg.ok p (List.mem_filter.1 hp).1) a0.Start a0.T hs ht]
      rfl
    have hr : chargenetref16_Why 300000060 a0.L a0.Conn a0.Txn a0.Start a0.T = some (oI (dec (a0.L.filter (cdB a0.Conn a0.Txn)) a0.Start a0.T), (dec (a0.L.filter (cdB a0.Conn a0.Txn)) a0.Start a0.T).isSome) := by
      unfold chargenetref16_Why
      rw [decide_ref a0.L hl hg.ok a0.Conn a0.Txn a0.Start a0.T hs ht]
      rfl
    rw [h, hw, hr, at_c a0.L hl hg.ok a0.Conn a0.Txn a0.Start a0.T hs ht, at_ref a0.L hl hg.ok a0.Conn a0.Txn a0.Start a0.T hs ht]
    simp
end Go.Proofs.Ytjpooimkhkhgkaa.M
