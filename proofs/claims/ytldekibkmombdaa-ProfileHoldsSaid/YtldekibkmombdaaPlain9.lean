/- The plain law of ProfileHolds: between a time and Next the limit does not change, and at Next it does. -/
import Derived.Test.YtldekibkmombdaaPlain8a
namespace Go.Proofs.Ytldekibkmombdaa.M
open Go Go.Proofs.Ytldekibkmombdaa.E Go.Proofs.Ytldekibkmombdaa.W
set_option linter.unusedVariables false
set_option linter.unusedSimpArgs false

theorem lim_const (p : SProfile) (start t : Int) : ∀ (n : Nat), (∀ u, t < u → u ≤ t + n → ¬ chg p start u) → lim p start (t + n) = lim p start t
  | 0, h => by simp
  | n + 1, h => by
    have h1 := lim_const p start t n (fun u a b => h u a (by omega))
    have h2 := h (t + (n + 1 : Nat)) (by omega) (by omega)
    unfold chg at h2
    have h3 : lim p start (t + (n + 1 : Nat) - 1) = lim p start (t + (n + 1 : Nat)) := Decidable.of_not_not h2
    rw [← h3, ← h1]
    congr 1
    omega

theorem lim_const' (p : SProfile) (start t x : Int) (hx : t ≤ x) (h : ∀ u, t < u → u ≤ x → ¬ chg p start u) : lim p start x = lim p start t := by
  have := lim_const p start t (x - t).toNat (fun u a b => h u a (by omega))
  rw [← this]; congr 1; omega

theorem holds_35 (p : SProfile) (v : VOk p) (start t part n e : Int) (hs : -9223372036854775808 ≤ start ∧ start ≤ 9223372036854775807) (ht : 0 ≤ t ∧ t ≤ 268435456) (hpart : 0 ≤ part ∧ part < 4294967296)
    (hn : IsNext p start t n) (he : (n = -1 ∧ e = 268435457) ∨ (n ≠ -1 ∧ e = n)) : chargenetlaw15_ProfileHolds_p35 300000060 p start t part n e = some true := by
  have hte : t < e ∧ e ≤ 268435457 := by
    rcases hn with ⟨h, _⟩ | ⟨h1, h2, _⟩ <;> omega
  have hno : ∀ u, t < u → u < e → ¬ chg p start u := by
    intro u h1 h2
    rcases hn with ⟨h, h3⟩ | ⟨h3, h4, h5, h6⟩
    · exact h3 u h1 (by omega)
    · exact h6 u h1 (by omega)
  unfold chargenetlaw15_ProfileHolds_p35
  have w1 : IntKind.wrap .i64 (e - t) = e - t := Go.IntWalk.i64_in _ (by omega)
  have w2 : IntKind.wrap .i64 part = part := Go.IntWalk.i64_in _ (by omega)
  have b1 : 0 ≤ part.tmod (e - t) := Int.tmod_nonneg _ (by omega)
  have b2 : part.tmod (e - t) < e - t := Int.tmod_lt_of_pos _ (by omega)
  have w3 : IntKind.wrap .i64 (t + part.tmod (e - t)) = t + part.tmod (e - t) := Go.IntWalk.i64_in _ (by omega)
  rw [show decide (e ≤ t) = false by simp; omega, show decide (268435457 < e) = false by simp; omega, w1, w2, w3, prof_lim p v start t hs (by omega), Option.bind_some, guard_pos (show e - t ≠ 0 by omega),
    prof_lim p v start _ hs (by omega), lim_const' p start t (t + part.tmod (e - t)) (by omega) (fun u a b => hno u a (by omega)), awake60]
  simp only [cond_false, Option.bind_some, decide_true, Bool.not_true, beq_self_eq_true]
  by_cases h1 : n = -1
  · simp [h1]
  · have h2 : t < n ∧ n ≤ 268435456 ∧ chg p start n := by
      rcases hn with ⟨h, _⟩ | ⟨a, b, c, _⟩
      · exact absurd h h1
      · exact ⟨a, b, c⟩
    have hc := h2.2.2
    unfold chg at hc
    rw [lim_const' p start t (n - 1) (by omega) (fun u a b => hno u a (by omega))] at hc
    rw [show decide (n = -1) = false by simpa using h1, prof_lim p v start n hs (by omega)]
    simp only [cond_false, Option.bind_some]
    by_cases d1 : (lim p start n).1 = (lim p start t).1
    · have d2 : (lim p start n).2 ≠ (lim p start t).2 := fun h => hc (Prod.ext d1.symm h.symm)
      have d3 : ((lim p start n).2 == (lim p start t).2) = false := by simpa using d2
      rw [d3]; simp
    · simp [d1]

theorem plain_chargenetlaw15_ProfileHolds (a0 : SProfile) (a1 : Int) (a2 : Int) (a3 : Int) (w0 : okSProfile a0) (w1 : (Lit.int .i64 a1).wf = true) (w2 : (Lit.int .i64 a2).wf = true) (w3 : (Lit.int .u32 a3).wf = true) : ∃ F, chargenetlaw15_ProfileHolds F a0 a1 a2 a3 = some true := by
  refine ⟨300000060, ?_⟩
  unfold chargenetlaw15_ProfileHolds
  rw [awake60]
  rcases right_eq a0 with h | ⟨h, _, _, v⟩
  · rw [h]; rfl
  · rw [h]
    simp only [Option.bind_some, Bool.not_true, cond_false]
    by_cases g1 : a2 < 0
    · simp [g1]
    by_cases g2 : 268435456 < a2
    · simp [g1, g2]
    simp only [g1, g2, decide_false, cond_false]
    obtain ⟨r, h1, h2⟩ := prof_next a0 v a1 a2 (wf64 w1) (by omega)
    have hpart : 0 ≤ a3 ∧ a3 < 4294967296 := by
      simp [Lit.wf, IntKind.min, IntKind.max, IntKind.signed, IntKind.bits] at w3
      omega
    rw [h1, Option.bind_some]
    by_cases hr : r = -1
    · rw [show decide (r = -1) = true by simpa using hr, cond_true]
      exact holds_35 a0 v a1 a2 a3 r _ (wf64 w1) (by omega) hpart h2 (.inl ⟨hr, rfl⟩)
    · rw [show decide (r = -1) = false by simpa using hr, cond_false]
      exact holds_35 a0 v a1 a2 a3 r _ (wf64 w1) (by omega) hpart h2 (.inr ⟨hr, rfl⟩)
end Go.Proofs.Ytldekibkmombdaa.M
