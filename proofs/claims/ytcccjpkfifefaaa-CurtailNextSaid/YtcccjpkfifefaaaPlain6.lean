/- The plain law of CurtailNext: limits are constant until Next, and one changes there. -/
import Derived.Test.YtcccjpkfifefaaaPlainD
namespace Go.Proofs.Ytcccjpkfifefaaa.M
open Go Go.Proofs.Ytcccjpkfifefaaa.E Go.Proofs.Ytcccjpkfifefaaa.W
set_option linter.unusedVariables false
set_option linter.unusedSimpArgs false

theorem at_const (l : List SCurtail) (f t : Int) (hf : 0 ≤ f ∧ f < 32) : ∀ (n : Nat), (∀ u, t < u → u ≤ t + n → ¬ Chg l u) → atS l f (t + n) = atS l f t
  | 0, h => by simp
  | n + 1, h => by
    have h1 := at_const l f t hf n (fun u a b => h u a (by omega))
    have h2 := h (t + (n + 1 : Nat)) (by omega) (by omega)
    have h3 : atS l f (t + (n + 1 : Nat)) = atS l f (t + (n + 1 : Nat) - 1) := by
      apply Decidable.byContradiction
      intro hne
      exact h2 ⟨f, hf.1, hf.2, hne⟩
    rw [h3, ← h1]
    congr 1
    omega

theorem nexts_l (l : List SCurtail) (hl : l.length ≤ 64) (b : Bool) (t n at_ : Int) (hsame : ∀ f : Int, 0 ≤ f → f < 32 → atS l f at_ = atS l f t) (hn : n = -1 ∨ (0 ≤ n ∧ n ≤ 268435456)) : ∀ (k f : Nat) (ch : Bool), f ≤ 32 → 32 < k + f →
    (n = -1 ∨ ch = true ∨ ∃ g : Int, (f : Int) ≤ g ∧ g < 32 ∧ atS l g n ≠ atS l g (n - 1)) → chargenetlaw13_CurtailNext_l44 1000 t (l, b) n at_ k ch (f : Int) = some true
  | 0, f, ch, h1, h2, _ => by omega
  | k + 1, f, ch, h1, h2, h3 => by
    simp only [chargenetlaw13_CurtailNext_l44, chargenetlaw13_CurtailNext_b44]
    by_cases hf : f < 32
    · have e1 : decide ((f : Int) < 32) = true := by simp; omega
      have w1 : IntKind.wrap .i64 (n - 1) = n - 1 := Go.IntWalk.i64_in _ (by omega)
      rw [e1, cond_true, at_eq l (by omega), at_eq l (by omega), at_eq l (by omega), w1, at_eq l (by omega), hsame (f : Int) (by omega) (by omega)]
      simp only [Option.bind_some, decide_true, Bool.not_true, cond_false]
      unfold chargenetlaw13_CurtailNext_p47
      rw [wsucc f (by omega)]
      cases ch with
      | true => rw [cond_true]; exact nexts_l l hl b t n at_ hsame hn k (f + 1) true (by omega) (by omega) (.inr (.inl rfl))
      | false =>
        rw [cond_false]
        refine nexts_l l hl b t n at_ hsame hn k (f + 1) _ (by omega) (by omega) ?_
        rcases h3 with h3 | h3 | ⟨g, g1, g2, g3⟩
        · exact .inl h3
        · cases h3
        · by_cases hg : g = (f : Int)
          · subst hg
            refine .inr (.inl ?_)
            simp [g3]
          · exact .inr (.inr ⟨g, by omega, g2, g3⟩)
    · have e1 : decide ((f : Int) < 32) = false := by simp; omega
      rw [e1, cond_false]
      unfold chargenetlaw13_CurtailNext_p18
      rcases h3 with h3 | h3 | ⟨g, g1, g2, g3⟩
      · simp [h3]
      · rw [h3]; cases decide (n = -1) <;> rfl
      · omega

theorem plain_chargenetlaw13_CurtailNext (a0 : List SCurtail) (a1 : Int) (a2 : Int) (w0 : okVec okSCurtail a0) (w1 : (Lit.int .i64 a1).wf = true) (w2 : (Lit.int .u16 a2).wf = true) : ∃ F, chargenetlaw13_CurtailNext F a0 a1 a2 = some true := by
  refine ⟨1000, ?_⟩
  have hu : 0 ≤ a2 ∧ a2 < 65536 := by
    simp [Lit.wf, IntKind.min, IntKind.max, IntKind.signed, IntKind.bits] at w2
    omega
  unfold chargenetlaw13_CurtailNext
  rw [example_ok]
  by_cases h : (100 : Int) < (a0.length : Int)
  · simp [h]
  by_cases h1 : a1 < -1000
  · simp [h1]
  by_cases h2 : 536870912 < a1
  · simp [h2]
  obtain ⟨q, hq, hi⟩ := build_eq a0 (by omega)
  have hlen := hi.len
  have hL : Lim13 q := ⟨hi.len, hi.ok⟩
  obtain ⟨r, h3, h4⟩ := next_eq q hL a1
  rw [show decide ((100 : Int) < (a0.length : Int)) = false by simpa using h, show decide (a1 < -1000) = false by simpa using h1, show decide (536870912 < a1) = false by simpa using h2, hq]
  simp only [cond_false, Option.bind_some, Bool.not_true, h3]
  have wu : IntKind.wrap .i64 a2 = a2 := Go.IntWalk.i64_in _ (by omega)
  rcases h4 with ⟨rfl, h5⟩ | ⟨h5, h6, h7, h8⟩
  · have key : chargenetlaw13_CurtailNext_p61 1000 a1 a2 (q, true) (-1) = some true := by
      have wv : IntKind.wrap .i64 (a1 + a2) = a1 + a2 := Go.IntWalk.i64_in _ (by omega)
      unfold chargenetlaw13_CurtailNext_p61 chargenetlaw13_CurtailNext_p58
      rw [wu, wv, show decide ((0 : Int) ≤ -1) = false by decide, cond_false]
      have := nexts_l q hi.len true a1 (-1) (a1 + a2) (fun f f1 f2 => by
        have := at_const q f a1 ⟨f1, f2⟩ a2.toNat (fun u hu1 _ => h5 u hu1)
        rw [show a1 + (a2.toNat : Int) = a1 + a2 by omega] at this
        exact this) (.inl rfl) 1000 0 false (by omega) (by omega) (.inl rfl)
      simpa only [Int.natCast_zero] using this
    rw [key]; rfl
  · have hr := chg_range q hL r h7
    have key : chargenetlaw13_CurtailNext_p61 1000 a1 a2 (q, true) r = some true := by
      have wd : IntKind.wrap .i64 (r - a1) = r - a1 := Go.IntWalk.i64_in _ (by omega)
      have b1 : 0 ≤ a2.tmod (r - a1) := Int.tmod_nonneg _ (by omega)
      have b2 : a2.tmod (r - a1) < r - a1 := Int.tmod_lt_of_pos _ (by omega)
      have wv : IntKind.wrap .i64 (a1 + a2.tmod (r - a1)) = a1 + a2.tmod (r - a1) := Go.IntWalk.i64_in _ (by omega)
      unfold chargenetlaw13_CurtailNext_p61 chargenetlaw13_CurtailNext_p58
      rw [wu, wd, wv, show decide (0 ≤ r) = true by simpa using h5, cond_true, guard_pos (by omega)]
      obtain ⟨f, f1, f2, f3⟩ := h7
      have := nexts_l q hi.len true a1 r (a1 + a2.tmod (r - a1)) (fun f f1 f2 => by
        have := at_const q f a1 ⟨f1, f2⟩ (a2.tmod (r - a1)).toNat (fun u hu1 hu2 => h8 u hu1 (by omega))
        rw [show a1 + ((a2.tmod (r - a1)).toNat : Int) = a1 + a2.tmod (r - a1) by omega] at this
        exact this) (.inr hr) 1000 0 false (by omega) (by omega) (.inr (.inr ⟨f, by omega, f2, f3⟩))
      simpa only [Int.natCast_zero] using this
    rw [key, show decide (0 ≤ r) = true by simpa using h5, show decide (r ≤ a1) = false by simp; omega, show decide (r < -1) = false by simp; omega]
    rfl
end Go.Proofs.Ytcccjpkfifefaaa.M
