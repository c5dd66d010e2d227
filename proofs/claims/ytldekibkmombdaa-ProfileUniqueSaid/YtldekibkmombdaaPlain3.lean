/- The plain law of ProfileValids: both checks of a profile agree. -/
import Derived.Test.YtldekibkmombdaaPlainB
namespace Go.Proofs.Ytldekibkmombdaa.M
open Go Go.Proofs.Ytldekibkmombdaa.E Go.Proofs.Ytldekibkmombdaa.W
set_option linter.unusedVariables false
set_option linter.unusedSimpArgs false

theorem opt_cond {α : Type} {b : Bool} {x y : Option α} (hx : ∃ v, x = some v) (hy : ∃ v, y = some v) : ∃ v, (bif b then x else y) = some v := by
  cases b <;> assumption
theorem opt_some {α : Type} (a : α) : ∃ v, some a = some v := ⟨a, rfl⟩

theorem ident_l_total (s : ByteArray) (hs : s.size ≤ 36) : ∀ (n pos : Nat), pos ≤ s.size → s.size < n + pos → ∃ b, chargenetref01_Valid_l27 300000060 s n (pos : Int) = some b
  | 0, pos, h1, h2 => by omega
  | n + 1, pos, h1, h2 => by
    simp only [chargenetref01_Valid_l27, chargenetref01_Valid_b27]
    by_cases hp : pos < s.size
    · have e1 : decide ((pos : Int) < (s.size : Int)) = true := by simpa using hp
      have e2 : 0 ≤ (pos : Int) ∧ (pos : Int) < (s.size : Int) := by omega
      obtain ⟨r0, r1⟩ := sGet_range s pos
      obtain ⟨v, hv, hsg⟩ := ref_value (sGet s pos) r0 r1
      have hnat : ((pos : Int)).toNat = pos := by omega
      obtain ⟨b, hb⟩ := ident_l_total s hs n (pos + 1) (by omega) (by omega)
      rw [e1, cond_true, guard_pos e2, hnat, hv]
      simp only [Option.bind_some, chargenetref01_Valid_p29, wsucc pos (by omega), hb]
      exact opt_cond (opt_cond (opt_cond (opt_cond (opt_cond (opt_cond (opt_some _) (opt_some _)) (opt_some _)) (opt_some _)) (opt_some _)) (opt_some _)) (opt_some _)
    · have e1 : decide ((pos : Int) < (s.size : Int)) = false := by simp; omega
      rw [e1]; exact ⟨_, rfl⟩

theorem ident_total (s : ByteArray) : ∃ b, chargenetref01_Valid 300000060 s = some b := by
  unfold chargenetref01_Valid
  cases decide ((s.size : Int) < 1) with
  | true => exact ⟨_, rfl⟩
  | false =>
    simp only [cond_false]
    cases h : decide ((36 : Int) < (s.size : Int)) with
    | true => exact ⟨_, rfl⟩
    | false =>
      have := of_decide_eq_false h
      exact ident_l_total s (by omega) 300000060 0 (by omega) (by omega)

theorem periods_total (p : SProfile) (hp : p.Periods.length ≤ 30) (g : Int) : ∀ (n t : Nat), t ≤ p.Periods.length → p.Periods.length < n + t → ∃ v, profile_periods_l28 p g n (t : Int) = some v
  | 0, t, h1, h2 => by omega
  | n + 1, t, h1, h2 => by
    simp only [profile_periods_l28, profile_periods_b28]
    by_cases ht : t < p.Periods.length
    · have e1 : decide ((t : Int) < (p.Periods.length : Int)) = true := by simpa using ht
      have e2 : 0 ≤ (t : Int) ∧ (t : Int) < (p.Periods.length : Int) := by omega
      obtain ⟨v, hv⟩ := periods_total p hp g n (t + 1) (by omega) (by omega)
      rw [e1, cond_true, guard_pos e2]
      simp only [profile_periods_p38, profile_periods_p33, wsucc t (by omega), hv]
      have h33 : ∃ u, (bif decide ((p.Periods.getD ((t : Int)).toNat dSPeriod).Limit < 0) then some 2 else bif decide (1048576 < (p.Periods.getD ((t : Int)).toNat dSPeriod).Limit) then some 2 else some v) = some u :=
        opt_cond (opt_some _) (opt_cond (opt_some _) (opt_some _))
      have h38 : ∃ u, (bif decide (0 < (t : Int)) then E.guard (0 ≤ IntKind.wrap .i64 ((t : Int) - 1) ∧ IntKind.wrap .i64 ((t : Int) - 1) < (p.Periods.length : Int)) (bif decide ((p.Periods.getD ((t : Int)).toNat dSPeriod).At ≤ (p.Periods.getD (IntKind.wrap .i64 ((t : Int) - 1)).toNat dSPeriod).At) then some 1 else bif decide (g < (p.Periods.getD ((t : Int)).toNat dSPeriod).At) then some 1 else bif decide ((p.Periods.getD ((t : Int)).toNat dSPeriod).Limit < 0) then some 2 else bif decide (1048576 < (p.Periods.getD ((t : Int)).toNat dSPeriod).Limit) then some 2 else some v) else bif decide ((p.Periods.getD ((t : Int)).toNat dSPeriod).Limit < 0) then some 2 else bif decide (1048576 < (p.Periods.getD ((t : Int)).toNat dSPeriod).Limit) then some 2 else some v) = some u := by
        by_cases h0 : (0 : Int) < (t : Int)
        · rw [decide_eq_true h0, cond_true, guard_pos (by rw [Go.IntWalk.i64_in _ (by omega)]; omega)]
          exact opt_cond (opt_some _) (opt_cond (opt_some _) h33)
        · rw [decide_eq_false h0, cond_false]; exact h33
      exact opt_cond (opt_cond (opt_some _) h38) h38
    · have e1 : decide ((t : Int) < (p.Periods.length : Int)) = false := by simp; omega
      rw [e1]; exact ⟨_, rfl⟩

theorem opt_bind {α β : Type} {x : Option α} {f : α → Option β} (hx : ∃ v, x = some v) (hf : ∀ v, ∃ u, f v = some u) : ∃ u, x.bind f = some u := by
  obtain ⟨v, rfl⟩ := hx; exact hf v

theorem times_total (p : SProfile) : ∃ b, profile_times 300000060 p = some b := by
  have h5 : ∃ b, profile_times_p5 p = some b := opt_cond (opt_some _) (opt_cond (opt_some _) (opt_some _))
  have h10 : ∃ b, profile_times_p10 p = some b := opt_cond (opt_some _) (opt_cond (opt_some _) (opt_cond (opt_cond (opt_some _) h5) h5))
  exact opt_cond (opt_some _) (opt_cond (opt_some _) (opt_cond (opt_cond (opt_some _) (opt_cond (opt_some _) h10)) h10))

theorem numbers_total (p : SProfile) : ∃ b, profile_numbers 300000060 p = some b := by
  unfold profile_numbers
  repeat (first | exact opt_some _ | refine opt_cond ?_ (opt_some _))

theorem valid_total (p : SProfile) (hp : p.Periods.length ≤ 30) : ∃ v, profile_Valid 300000060 p = some v := by
  have h11 : ∃ v, profile_Valid_p11 300000060 p = some v := by
    unfold profile_Valid_p11 profile_periods profile_periods_p41
    obtain ⟨c, g, hc, _⟩ := last_eq p.Kind
    refine opt_bind (times_total p) fun b => opt_cond (opt_some _) (opt_cond (opt_some _) (opt_cond (opt_some _) (opt_bind ?_ fun v => opt_some v)))
    rw [hc]
    exact opt_cond (periods_total p hp _ 300000060 0 (by omega) (by omega)) (periods_total p hp _ 300000060 0 (by omega) (by omega))
  have h14 : ∃ v, profile_Valid_p14 300000060 p = some v := opt_cond (opt_cond (opt_some _) h11) h11
  have h17 : ∃ v, profile_Valid_p17 300000060 p = some v := opt_cond (opt_cond (opt_some _) h14) h14
  have h20 : ∃ v, profile_Valid_p20 300000060 p = some v := opt_cond (opt_cond (opt_some _) h17) h17
  unfold profile_Valid
  refine opt_bind (numbers_total p) fun b => opt_cond (opt_some _) (opt_cond (opt_bind ?_ fun c => opt_cond (opt_some _) h20) h20)
  rw [ident_eq]; exact ident_total p.Txn

theorem plain_chargenetlaw15_ProfileValids (a0 : SProfile) (w0 : okSProfile a0) : ∃ F, chargenetlaw15_ProfileValids F a0 = some true := by
  refine ⟨300000060, ?_⟩
  unfold chargenetlaw15_ProfileValids
  rw [awake60]
  cases h1 : decide ((50 : Int) < (a0.Txn.size : Int)) with
  | true => rfl
  | false =>
    cases h2 : decide ((30 : Int) < (a0.Periods.length : Int)) with
    | true => rfl
    | false =>
      have hp : a0.Periods.length ≤ 30 := by have := of_decide_eq_false h2; omega
      obtain ⟨v, hv⟩ := valid_total a0 hp
      rw [← valid_eq a0 hp, hv]
      simp
end Go.Proofs.Ytldekibkmombdaa.M
