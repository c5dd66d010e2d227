/- The plain law of ComposeIgnores: a profile that is no candidate, or does not apply, changes nothing. -/
import Derived.Test.YtjpooimkhkhgkaaPlainB
namespace Go.Proofs.Ytjpooimkhkhgkaa.M
open Go Go.Proofs.Ytjpooimkhkhgkaa.E Go.Proofs.Ytjpooimkhkhgkaa.W
set_option linter.unusedVariables false
set_option linter.unusedSimpArgs false

theorem ld_skip (a b : List SProfile) (p : SProfile) (pu start t : Int) (conn : Int) (txn : ByteArray) (h : cdB conn txn p = false ∨ (lim p start t).2 = false) :
    ld ((a ++ b).filter (cdB conn txn)) pu start t = ld ((a ++ p :: b).filter (cdB conn txn)) pu start t := by
  unfold ld
  rw [List.filter_append, List.filter_append, List.filter_cons, List.foldl_append, List.foldl_append]
  rcases h with h | h
  · rw [h]; rfl
  · cases cdB conn txn p with
    | false => rfl
    | true =>
      rw [if_pos rfl, List.foldl_cons]
      congr 1
      unfold stp
      rw [h]; simp

theorem dec_skip (a b : List SProfile) (p : SProfile) (start t : Int) (conn : Int) (txn : ByteArray) (h : cdB conn txn p = false ∨ (lim p start t).2 = false) :
    dec ((a ++ b).filter (cdB conn txn)) start t = dec ((a ++ p :: b).filter (cdB conn txn)) start t := by
  unfold dec ses
  rw [ld_skip a b p 1 start t conn txn h, ld_skip a b p 2 start t conn txn h, ld_skip a b p 3 start t conn txn h]

theorem u8_in (x : Int) (h : (Lit.int .u8 x).wf = true) : IntKind.wrap .i64 x = x ∧ 0 ≤ x := by
  have : 0 ≤ x ∧ x < 256 := by
    simp [Lit.wf, IntKind.min, IntKind.max, IntKind.signed, IntKind.bits] at h
    omega
  exact ⟨Go.IntWalk.i64_in _ (by omega), this.1⟩

theorem ignores_24 (q : SQuery) (hg : GoodQ q) (i : Int) (k : Nat) (hk : k < q.L.length) (hi : Int.tmod (IntKind.wrap .i64 i) (q.L.length : Int) = (k : Int)) (h : cdB q.Conn q.Txn q.L[k] = false ∨ (lim q.L[k] q.Start q.T).2 = false) :
    chargenetlaw16_ComposeIgnores_p24 300000060 q i = some true := by
  have hlen := hg.len
  unfold chargenetlaw16_ComposeIgnores_p24
  have e1 : subL q.L 0 k = q.L.take k := by simp [subL]
  have e2 : subL q.L (k + 1) q.L.length = q.L.drop (k + 1) := by
    unfold subL
    exact List.take_of_length_le (by simp)
  have hs : -9223372036854775808 ≤ q.Start ∧ q.Start ≤ 9223372036854775807 := by have := hg.start; omega
  have ht : -9223372036854775808 ≤ q.T ∧ q.T ≤ 9223372036854775807 := by have := hg.t; omega
  rw [hi, wsucc k (by omega), guard_pos (by omega)]
  simp only [Int.toNat_natCast, e1, e2, List.nil_append]
  rw [guard_pos (by simp; omega), guard_pos (by omega), guard_pos (by simp; omega)]
  have hl2 : (q.L.take k ++ q.L.drop (k + 1)).length ≤ 100 := by simp; omega
  have hv2 : ∀ p ∈ q.L.take k ++ q.L.drop (k + 1), VOk p := by
    intro p hp
    rcases List.mem_append.1 hp with hp | hp
    · exact hg.ok p (List.mem_of_mem_take hp)
    · exact hg.ok p (List.mem_of_mem_drop hp)
  rw [at_c _ hl2 hv2 q.Conn q.Txn q.Start q.T hs ht, at_c q.L (by omega) hg.ok q.Conn q.Txn q.Start q.T hs ht, Option.bind_some, Option.bind_some]
  have hsplit : q.L = q.L.take k ++ q.L[k] :: q.L.drop (k + 1) := by
    rw [← List.drop_eq_getElem_cons hk, List.take_append_drop]
  have := dec_skip (q.L.take k) (q.L.drop (k + 1)) q.L[k] q.Start q.T q.Conn q.Txn h
  rw [← hsplit] at this
  rw [this, example_ok]
  simp

theorem plain_chargenetlaw16_ComposeIgnores (a0 : SQuery) (a1 : Int) (w0 : okSQuery a0) (w1 : (Lit.int .u8 a1).wf = true) : ∃ F, chargenetlaw16_ComposeIgnores F a0 a1 = some true := by
  refine ⟨300000060, ?_⟩
  unfold chargenetlaw16_ComposeIgnores
  rw [example_ok]
  rcases good_eq a0 with h | ⟨h, hg⟩
  · rw [h]; rfl
  · rw [h]
    simp only [Option.bind_some, Bool.not_true, cond_false]
    by_cases h0 : a0.L.length = 0
    · rw [show decide ((a0.L.length : Int) = 0) = true by simpa using h0]; rfl
    · rw [show decide ((a0.L.length : Int) = 0) = false by simp; simpa using h0, cond_false, guard_pos (by omega)]
      obtain ⟨w2, w3⟩ := u8_in a1 w1
      obtain ⟨k, hk, hkl⟩ : ∃ k : Nat, Int.tmod (IntKind.wrap .i64 a1) (a0.L.length : Int) = (k : Int) ∧ k < a0.L.length := by
        rw [w2]
        have h3 := Int.tmod_nonneg (a0.L.length : Int) w3
        have h4 := Int.tmod_lt_of_pos a1 (show (0 : Int) < (a0.L.length : Int) by omega)
        exact ⟨(Int.tmod a1 (a0.L.length : Int)).toNat, by omega, by omega⟩
      have hs : -9223372036854775808 ≤ a0.Start ∧ a0.Start ≤ 9223372036854775807 := by have := hg.start; omega
      have ht : -9223372036854775808 ≤ a0.T ∧ a0.T ≤ 9223372036854775807 := by have := hg.t; omega
      have h24 := ignores_24 a0 hg a1 k hkl hk
      rw [hk, guard_pos (by omega), getD_nat a0.L _ k hkl, ref_lim _ (hg.ok _ (List.getElem_mem hkl)) a0.Start a0.T hs ht, Option.bind_some]
      cases hlk : (lim a0.L[k] a0.Start a0.T).2 with
      | false => exact h24 (.inr hlk)
      | true =>
        simp only [cond_true]
        have hcd : cdB a0.Conn a0.Txn a0.L[k] = false → chargenetlaw16_ComposeIgnores_p24 300000060 a0 a1 = some true := fun h => h24 (.inl h)
        unfold cdB at hcd
        cases c1 : decide (a0.L[k].Conn = 0) <;> cases c2 : decide (a0.L[k].Conn = a0.Conn) <;> cases c3 : decide (a0.L[k].Purpose = 3) <;> cases c4 : sEq a0.L[k].Txn a0.Txn <;> simp [c1, c2, c3, c4] at hcd ⊢ <;> exact hcd
end Go.Proofs.Ytjpooimkhkhgkaa.M
