/- The plain law of ProfileNexts: the reference's Next also returns the least change. -/
import Derived.Test.YtldekibkmombdaaPlain8a
namespace Go.Proofs.Ytldekibkmombdaa.M
open Go Go.Proofs.Ytldekibkmombdaa.E Go.Proofs.Ytldekibkmombdaa.W
set_option linter.unusedVariables false
set_option linter.unusedSimpArgs false

def ls (n x t : Int) : Int := if t < x then (if n < 0 then x else if x < n then x else n) else n
theorem least_eq (n x t : Int) : chargenetref15_least 300000060 n x t = some (ls n x t) := by
  unfold chargenetref15_least chargenetref15_least_p1 ls
  by_cases h1 : t < x <;> by_cases h2 : n < 0 <;> by_cases h3 : x < n <;> simp [h1, h2, h3]

/-- n is -1 or after t -/
def Af (t n : Int) : Prop := n = -1 ∨ t < n
/-- n is known to be at most x, if x is after t -/
def Lb (t n x : Int) : Prop := t < x → 0 ≤ n ∧ n ≤ x
theorem ls_af (t n x : Int) (h : Af t n) : Af t (ls n x t) := by
  unfold Af ls at *; split <;> (try split) <;> (try split) <;> omega
theorem ls_lb (t n x : Int) (ht : 0 ≤ t) (h : Af t n) : Lb t (ls n x t) x := by
  unfold Af Lb ls at *; intro h1; rw [if_pos h1]; split <;> (try split) <;> omega
theorem ls_keep (t n x y : Int) (ht : 0 ≤ t) (h : Lb t n y) : Lb t (ls n x t) y := by
  unfold Lb ls at *; intro h1; have := h h1; split <;> (try split) <;> (try split) <;> omega

theorem cand_l (p : SProfile) (v : VOk p) (t o : Int) (ht : 0 ≤ t ∧ t ≤ 268435456) (ho : -536870912 ≤ o ∧ o ≤ 268435456) : ∀ (k i : Nat) (n : Int), i ≤ p.Periods.length → p.Periods.length < k + i → Af t n → (∀ j (hj : j < p.Periods.length), j < i → Lb t n (o + p.Periods[j].At)) →
    ∃ m, chargenetref15_candidate_l34 300000060 p t o k n (i : Int) = chargenetref15_candidate_p23 300000060 p t o m ∧ Af t m ∧ (∀ y, Lb t n y → Lb t m y) ∧ ∀ d ∈ p.Periods, Lb t m (o + d.At)
  | 0, i, n, h1, h2, _, _ => by omega
  | k + 1, i, n, h1, h2, h3, h4 => by
    have hlen := v.len
    simp only [chargenetref15_candidate_l34, chargenetref15_candidate_b34]
    by_cases hi : i < p.Periods.length
    · have e1 : decide ((i : Int) < (p.Periods.length : Int)) = true := by simpa using hi
      have e2 : 0 ≤ (i : Int) ∧ (i : Int) < (p.Periods.length : Int) := by omega
      have ha := v.at0 i hi
      have hw : IntKind.wrap .i64 (o + p.Periods[i].At) = o + p.Periods[i].At := Go.IntWalk.i64_in _ (by omega)
      rw [e1, cond_true, guard_pos e2, getD_nat p.Periods _ i hi, wsucc i (by omega), hw, least_eq, Option.bind_some]
      obtain ⟨m, m1, m2, m3, m4⟩ := cand_l p v t o ht ho k (i + 1) (ls n (o + p.Periods[i].At) t) (by omega) (by omega) (ls_af _ _ _ h3) (by
        intro j hj hji
        by_cases hji2 : j = i
        · subst hji2; exact ls_lb _ _ _ ht.1 h3
        · exact ls_keep _ _ _ _ ht.1 (h4 j hj (by omega)))
      exact ⟨m, m1, m2, fun y hy => m3 y (ls_keep _ _ _ _ ht.1 hy), m4⟩
    · have e1 : decide ((i : Int) < (p.Periods.length : Int)) = false := by simp; omega
      rw [e1, cond_false]
      refine ⟨n, rfl, h3, fun _ h => h, ?_⟩
      intro d hd
      obtain ⟨j, hj, rfl⟩ := List.getElem_of_mem hd
      exact h4 j hj (by omega)

def oat (p : SProfile) (start t : Int) : Int := if t < org p start then org p start else t - past p start t

theorem cand_39 (p : SProfile) (v : VOk p) (t o n : Int) (ht : 0 ≤ t ∧ t ≤ 268435456) (ho : o ≤ 268435456) (h3 : Af t n) :
    ∃ m, chargenetref15_candidate_p39 300000060 p t n o = some m ∧ Af t m ∧ (∀ y, Lb t n y → Lb t m y) ∧
      (-536870912 ≤ o → (∀ d ∈ p.Periods, Lb t m (o + d.At)) ∧ (p.Duration ≠ -1 → Lb t m (o + p.Duration)) ∧ (cyc p.Kind ≠ 0 → Lb t m (o + cyc p.Kind))) := by
  have hcc := cyc_cases p.Kind
  have hdur := v.dur
  unfold chargenetref15_candidate_p39
  by_cases hlow : o < -536870912
  · rw [show decide (o < -536870912) = true by simpa using hlow, cond_true]
    exact ⟨n, rfl, h3, fun _ h => h, fun h => by omega⟩
  · rw [show decide (o < -536870912) = false by simpa using hlow, cond_false]
    obtain ⟨m, m1, m2, m3, m4⟩ := cand_l p v t o ht (by omega) 300000060 0 n (by omega) (by have := v.len; omega) h3 (fun j _ h => absurd h (by omega))
    simp only [Int.natCast_zero] at m1
    rw [m1]
    unfold chargenetref15_candidate_p23
    have h19 : ∀ m, Af t m → ∃ q, chargenetref15_candidate_p19 300000060 p t o m = some q ∧ Af t q ∧ (∀ y, Lb t m y → Lb t q y) ∧ (cyc p.Kind ≠ 0 → Lb t q (o + cyc p.Kind)) := by
      intro m hm
      unfold chargenetref15_candidate_p19 chargenetref15_candidate_p13
      rw [cyc_ref, Option.bind_some]
      by_cases hc : 0 < cyc p.Kind
      · have hw : IntKind.wrap .i64 (o + cyc p.Kind) = o + cyc p.Kind := Go.IntWalk.i64_in _ (by omega)
        rw [show decide (0 < cyc p.Kind) = true by simpa using hc, cond_true, hw, least_eq]
        exact ⟨_, rfl, ls_af _ _ _ hm, fun y hy => ls_keep _ _ _ _ ht.1 hy, fun _ => ls_lb _ _ _ ht.1 hm⟩
      · rw [show decide (0 < cyc p.Kind) = false by simpa using hc, cond_false]
        exact ⟨_, rfl, hm, fun _ h => h, fun h => by omega⟩
    by_cases hd : p.Duration = -1
    · obtain ⟨q, q1, q2, q3, q4⟩ := h19 m m2
      rw [show decide (p.Duration = -1) = true by simpa using hd]
      simp only [Bool.not_true, cond_false]
      exact ⟨q, q1, q2, fun y hy => q3 y (m3 y hy), fun _ => ⟨fun d hd => q3 _ (m4 d hd), fun h => absurd hd h, q4⟩⟩
    · have hw : IntKind.wrap .i64 (o + p.Duration) = o + p.Duration := Go.IntWalk.i64_in _ (by omega)
      rw [show decide (p.Duration = -1) = false by simpa using hd, hw, least_eq]
      simp only [Bool.not_false, cond_true, Option.bind_some]
      obtain ⟨q, q1, q2, q3, q4⟩ := h19 (ls m (o + p.Duration) t) (ls_af _ _ _ m2)
      exact ⟨q, q1, q2, fun y hy => q3 y (ls_keep _ _ _ _ ht.1 (m3 y hy)), fun _ => ⟨fun d hd => q3 _ (ls_keep _ _ _ _ ht.1 (m4 d hd)), fun _ => q3 _ (ls_lb _ _ _ ht.1 m2), q4⟩⟩

theorem cand_43 (p : SProfile) (v : VOk p) (start t n : Int) (hs : -9223372036854775808 ≤ start ∧ start ≤ 9223372036854775807) (ht : 0 ≤ t ∧ t ≤ 268435456) (ho : org p start ≤ 268435456) (h3 : Af t n) :
    ∃ m, chargenetref15_candidate_p43 300000060 p start t n (org p start) = some m ∧ Af t m ∧ (∀ y, Lb t n y → Lb t m y) ∧ Lb t m (org p start) ∧
      (-536870912 ≤ oat p start t → (∀ d ∈ p.Periods, Lb t m (oat p start t + d.At)) ∧ (p.Duration ≠ -1 → Lb t m (oat p start t + p.Duration)) ∧ (cyc p.Kind ≠ 0 → Lb t m (oat p start t + cyc p.Kind))) := by
  unfold chargenetref15_candidate_p43
  rw [least_eq, Option.bind_some, origin_ref p v start t hs (by omega), Option.bind_some]
  have hoa : oat p start t ≤ 268435456 := by
    unfold oat
    by_cases h : t < org p start
    · rw [if_pos h]; exact ho
    · rw [if_neg h]
      have := past_bound p v start t hs (by omega) (by omega)
      omega
  obtain ⟨m, m1, m2, m3, m4⟩ := cand_39 p v t (oat p start t) (ls n (org p start) t) ht hoa (ls_af _ _ _ h3)
  refine ⟨m, ?_, m2, fun y hy => m3 y (ls_keep _ _ _ _ ht.1 hy), m3 _ (ls_lb _ _ _ ht.1 h3), m4⟩
  unfold oat at m1
  by_cases h : t < org p start
  · rw [if_pos h] at m1; rw [if_pos h]; exact m1
  · rw [if_neg h] at m1; rw [if_neg h]; exact m1

theorem cand (p : SProfile) (v : VOk p) (start t : Int) (hs : -9223372036854775808 ≤ start ∧ start ≤ 9223372036854775807) (ht : 0 ≤ t ∧ t ≤ 268435456) :
    ∃ m, chargenetref15_candidate 300000060 p start t = some m ∧ Af t m ∧ ∀ u, t < u → u ≤ 268435456 → (m = -1 ∨ u < m) → ¬ chg p start u := by
  have hst := v.start
  have hmain : ∃ m, chargenetref15_candidate 300000060 p start t = some m ∧ Af t m ∧ Lb t m p.Span_From ∧ Lb t m p.Span_To ∧ (org p start ≤ 268435456 → Lb t m (org p start) ∧
      (-536870912 ≤ oat p start t → (∀ d ∈ p.Periods, Lb t m (oat p start t + d.At)) ∧ (p.Duration ≠ -1 → Lb t m (oat p start t + p.Duration)) ∧ (cyc p.Kind ≠ 0 → Lb t m (oat p start t + cyc p.Kind)))) := by
    unfold chargenetref15_candidate
    rw [least_eq, Option.bind_some, least_eq, Option.bind_some]
    have a0 : Af t (-1) := .inl rfl
    have a1 := ls_af t (-1) p.Span_From a0
    have a2 := ls_af t _ p.Span_To a1
    have l1 := ls_keep t _ p.Span_To _ ht.1 (ls_lb t (-1) p.Span_From ht.1 a0)
    have l2 := ls_lb t _ p.Span_To ht.1 a1
    by_cases h4 : p.Kind = 4
    · have ho : org p start = start := by simp [org, h4]
      rw [show decide (p.Kind = 4) = true by simpa using h4, cond_true]
      by_cases hx : 268435456 < start
      · rw [show decide (268435456 < start) = true by simpa using hx, cond_true]
        exact ⟨_, rfl, a2, l1, l2, fun h => by omega⟩
      · rw [show decide (268435456 < start) = false by simpa using hx, cond_false]
        obtain ⟨m, m1, m2, m3, m4, m5⟩ := cand_43 p v start t _ hs ht (by omega) a2
        rw [ho] at m1 
        exact ⟨m, m1, m2, m3 _ l1, m3 _ l2, fun _ => ⟨m4, m5⟩⟩
    · have ho : org p start = p.Start := by simp [org, h4]
      rw [show decide (p.Kind = 4) = false by simpa using h4, cond_false]
      obtain ⟨m, m1, m2, m3, m4, m5⟩ := cand_43 p v start t _ hs ht (by omega) a2
      rw [ho] at m1
      exact ⟨m, m1, m2, m3 _ l1, m3 _ l2, fun _ => ⟨m4, m5⟩⟩
  obtain ⟨m, m1, m2, lf, lt, lo⟩ := hmain
  refine ⟨m, m1, m2, ?_⟩
  intro u hu1 hu2 hum hc
  have hno : ∀ x, t < x → x ≤ u → ¬ Lb t m x := by
    intro x h1 h2 h3
    have := h3 h1
    omega
  have hcf := chg_from p start u hc
  obtain ⟨lo1, lo2⟩ := lo (by omega)
  rcases chg_at p v start u hc with h | ⟨h1, h2⟩ | hmk
  · exact hno _ (by omega) (by omega) lf
  · exact hno _ (by omega) (by omega) lt
  · have hou : org p start ≤ t := by
      apply Decidable.byContradiction
      intro h
      exact hno _ (by omega) (by omega) lo1
    have hoat : oat p start t = t - past p start t := by unfold oat; rw [if_neg (by omega)]
    have hpb := past_bound p v start t hs (by omega) hou
    have hpu := past_bound p v start u hs (by omega) (by omega)
    by_cases hlow : -536870912 ≤ oat p start t
    · obtain ⟨k1, k2, k3⟩ := lo2 hlow
      have hpast : u = oat p start t + past p start u := by
        rw [hoat]
        have hlt : cyc p.Kind ≠ 0 → u < t - past p start t + cyc p.Kind := by
          intro hcn
          apply Decidable.byContradiction
          intro hge
          have hcc := cyc_cases p.Kind
          have := k3 hcn
          rw [hoat] at this
          refine hno _ ?_ (by omega) this
          unfold past
          rcases hcc with ⟨h, _⟩ | ⟨h, _⟩ | ⟨h, _⟩ <;> rw [h] <;> simp <;> omega
        unfold past at hlt ⊢
        rcases cyc_cases p.Kind with ⟨h, _⟩ | ⟨h, _⟩ | ⟨h, _⟩ <;> rw [h] at hlt ⊢ <;> simp at hlt ⊢ <;> omega
      rcases hmk.2 with ⟨d, hd, he⟩ | ⟨h1, h2⟩
      · exact hno (oat p start t + d.At) (by omega) (by omega) (k1 d hd)
      · exact hno (oat p start t + p.Duration) (by omega) (by omega) (k2 h1)
    · have hdur := v.dur
      have hcc := cyc_cases p.Kind
      have hpu2 : past p start u ≤ 268435456 := by
        rcases hmk.2 with ⟨d, hd, he⟩ | ⟨h1, h2⟩
        · obtain ⟨j, hj, rfl⟩ := List.getElem_of_mem hd
          have := v.at0 j hj
          omega
        · omega
      rw [hoat] at hlow
      unfold past at hlow hpu2
      rcases hcc with ⟨h, _⟩ | ⟨h, _⟩ | ⟨h, _⟩ <;> rw [h] at hlow hpu2 <;> simp at hlow hpu2 <;> omega

theorem changes_ref (p : SProfile) (v : VOk p) (start u : Int) (hs : -9223372036854775808 ≤ start ∧ start ≤ 9223372036854775807) (hu : 0 ≤ u ∧ u ≤ 268435456) : chargenetref15_Changes 300000060 p start u = some (decide (chg p start u)) := by
  unfold chargenetref15_Changes
  have hw : IntKind.wrap .i64 (u - 1) = u - 1 := Go.IntWalk.i64_in _ (by omega)
  rw [hw, ref_lim p v start (u - 1) hs (by omega), ref_lim p v start u hs (by omega), Option.bind_some, Option.bind_some]
  by_cases hc : chg p start u
  · have h := hc
    unfold chg at h
    rw [show decide (chg p start u) = true by simpa using hc]
    by_cases d1 : (lim p start (u - 1)).1 = (lim p start u).1
    · have d2 : (lim p start (u - 1)).2 ≠ (lim p start u).2 := fun h2 => h (Prod.ext d1 h2)
      have d3 : ((lim p start (u - 1)).2 == (lim p start u).2) = false := by simpa using d2
      simp [d1, d3]
    · simp [d1]
  · have h : lim p start (u - 1) = lim p start u := by unfold chg at hc; exact Decidable.of_not_not hc
    rw [h, show decide (chg p start u) = false by simpa using hc]
    simp

theorem round_l (p : SProfile) (v : VOk p) (start fr b rd : Int) (kl : Int → Int → Int → Option Int) (e : Int) (hs : -9223372036854775808 ≤ start ∧ start ≤ 9223372036854775807) (hf : 0 ≤ fr) (he : e ≤ 268435456) : ∀ (n : Nat) (u : Int),
    (u = -1 ∨ fr < u) → (∀ x, fr < x → x ≤ 268435456 → (u = -1 ∨ x < u) → ¬ chg p start x) → (0 < n ∧ (fr < u → e - u + 1 < n)) →
    (∃ r, chargenetref15_Next_l113 300000060 p start b rd kl e n u = some r ∧ fr < r ∧ r ≤ e ∧ chg p start r ∧ ∀ x, fr < x → x < r → ¬ chg p start x) ∨
    (chargenetref15_Next_l113 300000060 p start b rd kl e n u = chargenetref15_Next_p97 300000060 p b rd kl ∧ ∀ x, fr < x → x ≤ e → ¬ chg p start x)
  | 0, u, _, _, h => absurd h.1 (by omega)
  | n + 1, u, h1, h2, h3 => by
    simp only [chargenetref15_Next_l113, chargenetref15_Next_b113]
    by_cases a1 : 0 ≤ u
    · rw [show decide (0 ≤ u) = true by simpa using a1, cond_true]
      by_cases a2 : u ≤ e
      · rw [show decide (u ≤ e) = true by simpa using a2, cond_true, changes_ref p v start u hs (by omega), Option.bind_some]
        by_cases a3 : chg p start u
        · rw [show decide (chg p start u) = true by simpa using a3, cond_true]
          exact .inl ⟨u, rfl, by omega, a2, a3, fun x x1 x2 => h2 x x1 (by omega) (.inr x2)⟩
        · rw [show decide (chg p start u) = false by simpa using a3, cond_false]
          obtain ⟨m, m1, m2, m3⟩ := cand p v start u hs (by omega)
          rw [m1, Option.bind_some]
          refine round_l p v start fr b rd kl e hs hf he n m ?_ ?_ ?_
          · rcases m2 with m2 | m2
            · exact .inl m2
            · right; omega
          · intro x x1 x2 x3
            rcases Int.lt_trichotomy x u with h | h | h
            · exact h2 x x1 x2 (.inr h)
            · rw [h]; exact a3
            · exact m3 x h x2 x3
          · refine ⟨by omega, fun h => ?_⟩
            rcases m2 with m2 | m2 <;> omega
      · rw [show decide (u ≤ e) = false by simpa using a2, cond_false]
        exact .inr ⟨rfl, fun x x1 x2 => h2 x x1 (by omega) (.inr (by omega))⟩
    · rw [show decide (0 ≤ u) = false by simpa using a1, cond_false]
      exact .inr ⟨rfl, fun x x1 x2 => h2 x x1 (by omega) (.inl (by omega))⟩

def after (b x : Int) : Int := if b < x then 1 else 0
def cnt (p : SProfile) (b : Int) : Int := after b p.Span_From + after b p.Span_To + after b p.Start

theorem border_eq (p : SProfile) (b : Int) : chargenetref15_border 300000060 p b = some (ls (ls (ls (-1) p.Span_From b) p.Span_To b) p.Start b) := by
  unfold chargenetref15_border
  rw [least_eq, Option.bind_some, least_eq, Option.bind_some, least_eq, Option.bind_some]

theorem border_spec (p : SProfile) (b r : Int) (hb : 0 ≤ b) (hr : r = ls (ls (ls (-1) p.Span_From b) p.Span_To b) p.Start b) :
    (r = -1 ∧ p.Span_From ≤ b ∧ p.Span_To ≤ b ∧ p.Start ≤ b) ∨ (b < r ∧ cnt p r + 1 ≤ cnt p b ∧ (p.Span_From ≤ b ∨ r ≤ p.Span_From) ∧ (p.Span_To ≤ b ∨ r ≤ p.Span_To) ∧ (p.Start ≤ b ∨ r ≤ p.Start)) := by
  unfold cnt after
  unfold ls at hr
  by_cases a1 : b < p.Span_From <;> by_cases a2 : b < p.Span_To <;> by_cases a3 : b < p.Start <;> simp only [a1, a2, a3, if_true, if_false] at hr <;> (repeat split at hr) <;> (repeat split) <;> omega

theorem recur_none (p : SProfile) (v : VOk p) (start fr b : Int) (hc : cyc p.Kind ≠ 0) (hfb : fr = b ∨ fr = b - 1) (hno : ∀ x, fr < x → x ≤ fr + 2 * cyc p.Kind → x ≤ 268435456 → ¬ chg p start x)
    (e : Int) (he : e ≤ 268435457) (h1 : p.Span_From ≤ b ∨ e ≤ p.Span_From) (h2 : p.Span_To ≤ b ∨ e ≤ p.Span_To) (h3 : p.Start ≤ b ∨ e ≤ p.Start) : ∀ x, fr < x → x < e → ¬ chg p start x := by
  intro x x1 x2 x3
  obtain ⟨w, w1, w2, w3, w4⟩ := least_chg p start fr (x - fr).toNat x x1 (by omega) x3
  have hcc := cyc_cases p.Kind
  have hk : org p start = p.Start := by unfold org; rw [if_neg (by omega)]
  have hw := chg_from p start w w3
  have hfar : fr + 2 * cyc p.Kind < w := by
    apply Decidable.byContradiction
    intro h
    exact hno w w1 (by omega) (by omega) w3
  refine w4 (w - cyc p.Kind) (by omega) (by omega) (chg_back p start w w3 hc (by omega) (by omega) (by omega))

theorem ref_rounds (p : SProfile) (v : VOk p) (start t : Int) (hs : -9223372036854775808 ≤ start ∧ start ≤ 9223372036854775807) (ht : 0 ≤ t ∧ t ≤ 268435456) : ∀ (n : Nat) (fr b rd : Int), 0 ≤ rd → rd + cnt p b ≤ 3 → 4 - rd < n → t ≤ fr → fr ≤ 268435456 → 0 ≤ b → (fr = b ∨ fr = b - 1) →
    (∀ x, t < x → x ≤ fr → ¬ chg p start x) → ∃ r, chargenetref15_Next_l85 300000060 p start n fr b rd = some r ∧ IsNext p start t r
  | 0, fr, b, rd, g1, g2, g3, _, _, _, _, _ => by unfold cnt after at g2; omega
  | n + 1, fr, b, rd, g1, g2, g3, g4, g5, g6, g7, g8 => by
    have hcc := cyc_cases p.Kind
    have hcnt : 0 ≤ cnt p b := by unfold cnt after; repeat split <;> omega
    have hstep : ∀ e : Int, e ≤ 268435456 → ((cyc p.Kind = 0 ∧ e = 268435456) ∨ (cyc p.Kind ≠ 0 ∧ (e = 268435456 ∨ fr + 2 * cyc p.Kind ≤ e))) →
        ∃ r, chargenetref15_Next_p121 300000060 p start fr b rd (fun a c d => chargenetref15_Next_l85 300000060 p start n a c d) e = some r ∧ IsNext p start t r := by
      intro e he hee
      unfold chargenetref15_Next_p121
      obtain ⟨m, m1, m2, m3⟩ := cand p v start fr hs (by omega)
      rw [m1, Option.bind_some]
      rcases round_l p v start fr b rd (fun a c d => chargenetref15_Next_l85 300000060 p start n a c d) e hs (by omega) he 300000060 m m2 m3 (by omega) with ⟨r, r1, r2, r3, r4, r5⟩ | ⟨r1, r2⟩
      · refine ⟨r, r1, .inr ⟨by omega, by omega, r4, ?_⟩⟩
        intro u u1 u2
        by_cases hu : u ≤ fr
        · exact g8 u u1 hu
        · exact r5 u (by omega) u2
      · rw [r1]
        unfold chargenetref15_Next_p97
        rw [border_eq, Option.bind_some]
        have hrest : ∀ q : Int, q ≤ 268435457 → (p.Span_From ≤ b ∨ q ≤ p.Span_From) → (p.Span_To ≤ b ∨ q ≤ p.Span_To) → (p.Start ≤ b ∨ q ≤ p.Start) → ∀ x, t < x → x < q → ¬ chg p start x := by
          intro q hq q1 q2 q3 x x1 x2
          by_cases hx : x ≤ fr
          · exact g8 x x1 hx
          · rcases hee with ⟨k1, k2⟩ | ⟨k1, k2⟩
            · exact r2 x (by omega) (by omega)
            · exact recur_none p v start fr b k1 g7 (fun y y1 y2 y3 => r2 y y1 (by omega)) q hq q1 q2 q3 x (by omega) x2
        rcases border_spec p b _ g6 rfl with ⟨k1, k2, k3, k4⟩ | ⟨k1, k2, k3, k4, k5⟩
        · rw [k1]
          refine ⟨-1, rfl, .inl ⟨rfl, fun u u1 u2 => hrest 268435457 (by omega) (.inl k2) (.inl k3) (.inl k4) u u1 (by omega)⟩⟩
        · generalize ls (ls (ls (-1) p.Span_From b) p.Span_To b) p.Start b = q at *
          rw [show decide (q < 0) = false by simp; omega, cond_false]
          by_cases hq : 268435456 < q
          · rw [show decide (268435456 < q) = true by simpa using hq, cond_true]
            refine ⟨-1, rfl, .inl ⟨rfl, fun u u1 u2 => hrest 268435457 (by omega) (by omega) (by omega) (by omega) u u1 (by omega)⟩⟩
          · rw [show decide (268435456 < q) = false by simpa using hq, cond_false]
            unfold chargenetref15_Next_p89
            have w1 : IntKind.wrap .i64 (q - 1) = q - 1 := Go.IntWalk.i64_in _ (by omega)
            have w2 : IntKind.wrap .i64 (rd + 1) = rd + 1 := Go.IntWalk.i64_in _ (by omega)
            rw [w1, w2]
            exact ref_rounds p v start t hs ht n (q - 1) q (rd + 1) (by omega) (by omega) (by omega) (by omega) (by omega) (by omega) (.inr rfl)
              (fun x x1 x2 => hrest q (by omega) k3 k4 k5 x x1 (by omega))
    simp only [chargenetref15_Next_l85, chargenetref15_Next_b85]
    rw [show decide (rd < 4) = true by simp; omega, cond_true, cyc_ref, Option.bind_some]
    by_cases hc : 0 < cyc p.Kind
    · have w1 : IntKind.wrap .i64 (2 * cyc p.Kind) = 2 * cyc p.Kind := Go.IntWalk.i64_in _ (by omega)
      have w2 : IntKind.wrap .i64 (fr + 2 * cyc p.Kind) = fr + 2 * cyc p.Kind := Go.IntWalk.i64_in _ (by omega)
      rw [show decide (0 < cyc p.Kind) = true by simpa using hc, cond_true, w1, w2]
      refine hstep _ ?_ ?_
      · split <;> omega
      · right; refine ⟨by omega, ?_⟩; split <;> omega
    · rw [show decide (0 < cyc p.Kind) = false by simpa using hc, cond_false]
      exact hstep _ (by omega) (.inl ⟨by omega, rfl⟩)

theorem ref_next (p : SProfile) (v : VOk p) (start t : Int) (hs : -9223372036854775808 ≤ start ∧ start ≤ 9223372036854775807) (ht : 0 ≤ t ∧ t ≤ 268435456) :
    ∃ r, chargenetref15_Next 300000060 p start t = some r ∧ IsNext p start t r := by
  unfold chargenetref15_Next
  rw [show decide (t < 0) = false by simp; omega, show decide (268435456 < t) = false by simp; omega, cond_false, cond_false]
  exact ref_rounds p v start t hs ht 300000060 t t 0 (by omega) (by unfold cnt after; repeat split <;> omega) (by omega) (by omega) (by omega) (by omega) (.inl rfl) (fun x h1 h2 => by omega)

theorem plain_chargenetlaw15_ProfileNexts (a0 : SProfile) (a1 : Int) (a2 : Int) (w0 : okSProfile a0) (w1 : (Lit.int .i64 a1).wf = true) (w2 : (Lit.int .i64 a2).wf = true) : ∃ F, chargenetlaw15_ProfileNexts F a0 a1 a2 = some true := by
  refine ⟨300000060, ?_⟩
  unfold chargenetlaw15_ProfileNexts
  rw [awake60]
  rcases right_eq a0 with h | ⟨h, _, _, v⟩
  · rw [h]; rfl
  · rw [h]
    simp only [Option.bind_some, Bool.not_true, cond_false]
    by_cases g1 : a2 < 0
    · unfold profile_Next chargenetref15_Next
      rw [show decide (a2 < 0) = true by simpa using g1]; rfl
    by_cases g2 : 268435456 < a2
    · unfold profile_Next chargenetref15_Next
      rw [show decide (a2 < 0) = false by simpa using g1, show decide (268435456 < a2) = true by simpa using g2]; rfl
    obtain ⟨r, h1, h2⟩ := prof_next a0 v a1 a2 (wf64 w1) (by omega)
    obtain ⟨r', h3, h4⟩ := ref_next a0 v a1 a2 (wf64 w1) (by omega)
    rw [h1, h3, isNext_unique a0 a1 a2 r r' h2 h4]
    simp
end Go.Proofs.Ytldekibkmombdaa.M
