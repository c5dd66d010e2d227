/- Plain laws of chapter 15: the two checks of an identifier agree; so do the two checks of a profile. -/
import Derived.Test.YtldekibkmombdaaPlainA
namespace Go.Proofs.Ytldekibkmombdaa.M
open Go Go.Proofs.Ytldekibkmombdaa.E Go.Proofs.Ytldekibkmombdaa.W
set_option linter.unusedSimpArgs false

def alnum (r : Int) : Bool := decide (48 ≤ r ∧ r ≤ 57) || decide (65 ≤ r ∧ r ≤ 90) || decide (97 ≤ r ∧ r ≤ 122)
def special (r : Int) : Bool := decide (r = 45) || decide (r = 95) || decide (r = 46) || decide (r = 58) || decide (r = 42)

theorem value_sign (F : Nat) (r : Int) : ∃ v, ident_value F r = some v ∧ decide (v < 0) = !alnum r := by
  unfold ident_value ident_value_p10 ident_value_p8 ident_value_p1
  by_cases h1 : 48 ≤ r ∧ r ≤ 57
  · refine ⟨r - 48, ?_, ?_⟩
    · simp only [h1.1, h1.2, decide_true, cond_true]
      rw [Go.IntWalk.i32_in _ (by omega), Go.IntWalk.i64_in _ (by omega)]
    · have : alnum r = true := by simp [alnum, h1]
      rw [this]; simp; omega
  · by_cases h2 : 65 ≤ r ∧ r ≤ 90
    · refine ⟨r - 65 + 10, ?_, ?_⟩
      · have h3 : ¬ r ≤ 57 := by omega
        have h4 : 48 ≤ r := by omega
        simp only [h4, h3, h2.1, h2.2, decide_true, decide_false, cond_true, cond_false]
        rw [Go.IntWalk.i32_in _ (by omega), Go.IntWalk.i64_in (r - 65) (by omega), Go.IntWalk.i64_in _ (by omega)]
      · have : alnum r = true := by simp [alnum, h2]
        rw [this]; simp; omega
    · by_cases h3 : 97 ≤ r ∧ r ≤ 122
      · refine ⟨r - 97 + 10, ?_, ?_⟩
        · have h4 : 48 ≤ r := by omega
          have h5 : ¬ r ≤ 57 := by omega
          have h6 : 65 ≤ r := by omega
          have h7 : ¬ r ≤ 90 := by omega
          simp only [h4, h5, h6, h7, h3.1, h3.2, decide_true, decide_false, cond_true, cond_false]
          rw [Go.IntWalk.i32_in _ (by omega), Go.IntWalk.i64_in (r - 97) (by omega), Go.IntWalk.i64_in _ (by omega)]
        · have : alnum r = true := by simp [alnum, h3]
          rw [this]; simp; omega
      · refine ⟨-1, ?_, ?_⟩
        · by_cases a1 : 48 ≤ r <;> by_cases a2 : r ≤ 57 <;> by_cases a3 : 65 ≤ r <;> by_cases a4 : r ≤ 90 <;> by_cases a5 : 97 ≤ r <;> by_cases a6 : r ≤ 122 <;>
            first | omega | simp [a1, a2, a3, a4, a5, a6]
        · have : alnum r = false := by simp [alnum]; omega
          rw [this]; rfl

theorem ref_value_fin : ∀ c : Fin 256, ∃ v ∈ (chargenetref01_Value 300000060 ((c.val : Nat) : Int)).toList, decide (v < 0) = !alnum ((c.val : Nat) : Int) := by decide +kernel
theorem ref_value (c : Int) (h0 : 0 ≤ c) (h1 : c ≤ 255) : ∃ v, chargenetref01_Value 300000060 c = some v ∧ decide (v < 0) = !alnum c := by
  obtain ⟨v, hv, hs⟩ := ref_value_fin ⟨c.toNat, by omega⟩
  have hc : ((c.toNat : Nat) : Int) = c := by omega
  simp only [hc] at hv hs
  exact ⟨v, by simpa using hv, hs⟩

theorem sGet_range (s : ByteArray) (i : Nat) : 0 ≤ sGet s i ∧ sGet s i ≤ 255 := by
  unfold sGet
  have := (s.data.toList.getD i 0).toNat_lt
  omega

theorem dec_lo {s : ByteArray} {pos : Nat} (h : pos < s.size) (ha : sGet s pos < 128) : ((Utf8.decode s pos).1 : Int) = sGet s pos ∧ (Utf8.decode s pos).2 = 1 := by
  have h2 := sGet_at h
  have h3 := decode_ascii s pos h (by omega)
  rw [h3]
  exact ⟨h2, rfl⟩

theorem dec_hi {s : ByteArray} {pos : Nat} (h : pos < s.size) (ha : 128 ≤ sGet s pos) : 128 ≤ (Utf8.decode s pos).1 := by
  have h2 := sGet_at h
  have e : s.get! (pos + 0) = s[pos]'h := by
    show s.get! pos = _
    simp [ByteArray.get!, getElem!_pos, h]
    rfl
  have hb : ¬ (s[pos]'h).toNat < 128 := by omega
  simp only [Utf8.decode, e]
  rw [if_neg hb]
  split
  · split
    · rename_i h3; exact h3
    · decide
  · split
    · split
      · rename_i h3; simp at h3; omega
      · decide
    · split
      · split
        · rename_i h3; simp at h3; omega
        · decide
      · decide

theorem valid_l (s : ByteArray) (hs : s.size ≤ 36) : ∀ (n pos : Nat), ident_Valid_l29 300000060 s n pos = chargenetref01_Valid_l27 300000060 s n (pos : Int)
  | 0, pos => rfl
  | n + 1, pos => by
    simp only [ident_Valid_l29, ident_Valid_b29, chargenetref01_Valid_l27, chargenetref01_Valid_b27]
    by_cases hp : pos < s.size
    · have e1 : decide ((pos : Int) < (s.size : Int)) = true := by simpa using hp
      have e2 : 0 ≤ (pos : Int) ∧ (pos : Int) < (s.size : Int) := by omega
      obtain ⟨r0, r1⟩ := sGet_range s pos
      obtain ⟨v, hv, hsg⟩ := ref_value (sGet s pos) r0 r1
      have hnat : ((pos : Int)).toNat = pos := by omega
      rw [e1, cond_true, guard_pos e2, hnat, hv]
      simp only [decide_eq_true hp, cond_true, Option.bind_some, hsg, chargenetref01_Valid_p29, ident_Valid_p36, wsucc pos (by omega)]
      by_cases ha : sGet s pos < 128
      · obtain ⟨d1, d2⟩ := dec_lo hp ha
        obtain ⟨v2, hv2, hsg2⟩ := value_sign 300000060 (sGet s pos)
        have ih := valid_l s hs n (pos + 1)
        simp only [d1, d2, hv2, Option.bind_some, hsg2, ih]
        by_cases c1 : sGet s pos = 45
        · simp [c1, alnum]
        by_cases c2 : sGet s pos = 95
        · simp [c2, alnum]
        by_cases c3 : sGet s pos = 46
        · simp [c3, alnum]
        by_cases c4 : sGet s pos = 58
        · simp [c4, alnum]
        by_cases c5 : sGet s pos = 42
        · simp [c5, alnum]
        simp only [c1, c2, c3, c4, c5, decide_false, cond_false, Bool.not_false, cond_true]
      · have hd := dec_hi hp (by omega)
        obtain ⟨v2, hv2, hsg2⟩ := value_sign 300000060 ((Utf8.decode s pos).1 : Int)
        have a1 : alnum ((Utf8.decode s pos).1 : Int) = false := by simp [alnum]; omega
        have a2 : alnum (sGet s pos) = false := by simp [alnum]; omega
        have n1 : ¬ ((Utf8.decode s pos).1 : Int) = 45 := by omega
        have n2 : ¬ ((Utf8.decode s pos).1 : Int) = 95 := by omega
        have n3 : ¬ ((Utf8.decode s pos).1 : Int) = 46 := by omega
        have n4 : ¬ ((Utf8.decode s pos).1 : Int) = 58 := by omega
        have n5 : ¬ ((Utf8.decode s pos).1 : Int) = 42 := by omega
        have m1 : ¬ sGet s pos = 45 := by omega
        have m2 : ¬ sGet s pos = 95 := by omega
        have m3 : ¬ sGet s pos = 46 := by omega
        have m4 : ¬ sGet s pos = 58 := by omega
        have m5 : ¬ sGet s pos = 42 := by omega
        simp only [hv2, Option.bind_some, hsg2, a1, a2, n1, n2, n3, n4, n5, m1, m2, m3, m4, m5, decide_false, cond_false, Bool.not_false, cond_true]
    · have e1 : decide ((pos : Int) < (s.size : Int)) = false := by simp; omega
      rw [e1, decide_eq_false hp]
      rfl

theorem ident_eq (s : ByteArray) : ident_Valid 300000060 s = chargenetref01_Valid 300000060 s := by
  unfold ident_Valid chargenetref01_Valid
  cases decide ((s.size : Int) < 1) with
  | true => rfl
  | false =>
    simp only [cond_false]
    cases h : decide ((36 : Int) < (s.size : Int)) with
    | true => rfl
    | false =>
      simp only [cond_false]
      have := of_decide_eq_false h
      exact valid_l s (by omega) 300000060 0

theorem last_eq (k : Int) : ∃ c g, profile_cycle 300000060 k = some c ∧ chargenetref15_last 300000060 k = some g ∧ (0 < c → IntKind.wrap .i64 (c - 1) = g) ∧ (¬ 0 < c → g = 268435456) := by
  unfold profile_cycle profile_cycle_p5 profile_cycle_p4 profile_cycle_p2 chargenetref15_last
  by_cases h3 : k = 3
  · subst h3; exact ⟨10080, 10079, by rfl, by rfl, fun _ => by rfl, fun h => absurd h (by decide)⟩
  · by_cases h2 : k = 2
    · subst h2; exact ⟨1440, 1439, by rfl, by rfl, fun _ => by rfl, fun h => absurd h (by decide)⟩
    · exact ⟨0, 268435456, by simp [h3, h2]; rfl, by simp [h3, h2], fun h => absurd h (by decide), fun _ => rfl⟩

theorem periods_l (p : SProfile) (hp : p.Periods.length ≤ 30) (g : Int) (hg : chargenetref15_last 300000060 p.Kind = some g) : ∀ (n t : Nat), profile_periods_l28 p g n (t : Int) = chargenetref15_Valid_l49 300000060 p n (t : Int)
  | 0, t => rfl
  | n + 1, t => by
    simp only [profile_periods_l28, profile_periods_b28, chargenetref15_Valid_l49, chargenetref15_Valid_b49]
    by_cases ht : t < p.Periods.length
    · have e1 : decide ((t : Int) < (p.Periods.length : Int)) = true := by simpa using ht
      have e2 : 0 ≤ (t : Int) ∧ (t : Int) < (p.Periods.length : Int) := by omega
      have ih := periods_l p hp g hg n (t + 1)
      rw [e1, cond_true, cond_true, guard_pos e2, guard_pos e2]
      simp only [profile_periods_p38, profile_periods_p33, chargenetref15_Valid_p54, wsucc t (by omega), ih, hg, Option.bind_some]
    · have e1 : decide ((t : Int) < (p.Periods.length : Int)) = false := by simp; omega
      rw [e1]
      try rfl

theorem bind_some_id {α : Type} (x : Option α) : (x.bind fun c => some c) = x := by cases x <;> rfl
theorem times_eq (p : SProfile) : profile_times 300000060 p = chargenetref15_times 300000060 p := rfl
theorem numbers_eq (p : SProfile) : profile_numbers 300000060 p = chargenetref15_first 300000060 p := rfl

theorem valid_eq (p : SProfile) (hp : p.Periods.length ≤ 30) : profile_Valid 300000060 p = chargenetref15_Valid 300000060 p := by
  have h11 : profile_Valid_p11 300000060 p = chargenetref15_Valid_p69 300000060 p := by
    unfold profile_Valid_p11 chargenetref15_Valid_p69 profile_periods profile_periods_p41
    rw [times_eq]
    obtain ⟨c, g, hc, hg, h1, h2⟩ := last_eq p.Kind
    have hl := periods_l p hp g hg 300000060 0
    rw [hc]
    simp only [Option.bind_some]
    by_cases h0 : 0 < c
    · simp only [h0, decide_true, cond_true, h1 h0]
      simp only [Int.natCast_zero] at hl
      simp only [hl, bind_some_id]
    · simp only [h0, decide_false, cond_false]
      rw [h2 h0] at hl
      simp only [Int.natCast_zero] at hl
      simp only [hl, bind_some_id]
  unfold profile_Valid chargenetref15_Valid profile_Valid_p20 profile_Valid_p17 profile_Valid_p14 chargenetref15_Valid_p76
  rw [numbers_eq, ident_eq]
  simp only [h11]
  try (cases decide (p.Purpose = 3) <;> rfl)
end Go.Proofs.Ytldekibkmombdaa.M
