/- Plain laws: what is valid; Put and Clear. -/
import Derived.Test.YtfbkimhoncfnmaaPlainA
namespace Go.Proofs.Ytfbkimhoncfnmaa.M
open Go Go.Proofs.Ytfbkimhoncfnmaa.E Go.Proofs.Ytfbkimhoncfnmaa.W
set_option linter.unusedVariables false
set_option linter.unusedSimpArgs false
def special (r : Int) : Bool := decide (r = 45) || decide (r = 95) || decide (r = 46) || decide (r = 58) || decide (r = 42)
theorem value_sign (F : Nat) (r : Int) : ∃ v, ident_value F r = some v ∧ decide (v < 0) = !alnum r := by
  unfold ident_value ident_value_p10 ident_value_p8 ident_value_p1
  by_cases h1 : 48 ≤ r ∧ r ≤ 57
  · refine ⟨r - 48, ?_, ?_⟩
    · simp only [h1.1, h1.2, decide_true, cond_true]
      rw [Go.IntWalk.i32_in _ (by omega), Go.IntWalk.i64_in _ (by omega)]
    · have : alnum r = true := by simp [alnum, h1]
      rw [this]; simp; omega
  · by_cases h2 : 65 ≤ r ∧ r ≤ 90
    · refine ⟨r - 65 + 10, ?_, ?_⟩
      · have h3 : ¬ r ≤ 57 := by omega
        have h4 : 48 ≤ r := by omega
        simp only [h4, h3, h2.1, h2.2, decide_true, decide_false, cond_true, cond_false]
        rw [Go.IntWalk.i32_in _ (by omega), Go.IntWalk.i64_in (r - 65) (by omega), Go.IntWalk.i64_in _ (by omega)]
      · have : alnum r = true := by simp [alnum, h2]
        rw [this]; simp; omega
    · by_cases h3 : 97 ≤ r ∧ r ≤ 122
      · refine ⟨r - 97 + 10, ?_, ?_⟩
        · have h4 : 48 ≤ r := by omega
          have h5 : ¬ r ≤ 57 := by omega
          have h6 : 65 ≤ r := by omega
          have h7 : ¬ r ≤ 90 := by omega
          simp only [h4, h5, h6, h7, h3.1, h3.2, decide_true, decide_false, cond_true, cond_false]
          rw [Go.IntWalk.i32_in _ (by omega), Go.IntWalk.i64_in (r - 97) (by omega), Go.IntWalk.i64_in _ (by omega)]
        · have : alnum r = true := by simp [alnum, h3]
          rw [this]; simp; omega
      · refine ⟨-1, ?_, ?_⟩
        · by_cases a1 : 48 ≤ r <;> by_cases a2 : r ≤ 57 <;> by_cases a3 : 65 ≤ r <;> by_cases a4 : r ≤ 90 <;> by_cases a5 : 97 ≤ r <;> by_cases a6 : r ≤ 122 <;>
            first | omega | simp [a1, a2, a3, a4, a5, a6]
        · have : alnum r = false := by simp [alnum]; omega
          rw [this]; rfl
theorem dec_lo {s : ByteArray} {pos : Nat} (h : pos < s.size) (ha : sGet s pos < 128) : ((Utf8.decode s pos).1 : Int) = sGet s pos ∧ (Utf8.decode s pos).2 = 1 := by
  have h2 := sGet_at h
  have h3 := decode_ascii s pos h (by omega)
  rw [h3]
  exact ⟨h2, rfl⟩
theorem dec_hi {s : ByteArray} {pos : Nat} (h : pos < s.size) (ha : 128 ≤ sGet s pos) : 128 ≤ (Utf8.decode s pos).1 := by
  have h2 := sGet_at h
  have e : s.get! (pos + 0) = s[pos]'h := by
    show s.get! pos = _
    simp [ByteArray.get!, getElem!_pos, h]
    rfl
  have hb : ¬ (s[pos]'h).toNat < 128 := by omega
  simp only [Utf8.decode, e]
  rw [if_neg hb]
  split
  · split
    · rename_i h3; exact h3
    · decide
  · split
    · split
      · rename_i h3; simp at h3; omega
      · decide
    · split
      · split
        · rename_i h3; simp at h3; omega
        · decide
      · decide
theorem valid_l (s : ByteArray) (hs : s.size ≤ 36) : ∀ (n pos : Nat), ident_Valid_l29 300000060 s n pos = chargenetref01_Valid_l27 300000060 s n (pos : Int)
  | 0, pos => rfl
  | n + 1, pos => by
    simp only [ident_Valid_l29, ident_Valid_b29, chargenetref01_Valid_l27, chargenetref01_Valid_b27]
    by_cases hp : pos < s.size
    · have e1 : decide ((pos : Int) < (s.size : Int)) = true := by simpa using hp
      have e2 : 0 ≤ (pos : Int) ∧ (pos : Int) < (s.size : Int) := by omega
      obtain ⟨r0, r1⟩ := sGet_range s pos
      obtain ⟨v, hv, hsg⟩ := ref_value (sGet s pos) r0 r1
      have hnat : ((pos : Int)).toNat = pos := by omega
      rw [e1, cond_true, guard_pos e2, hnat, hv]
      simp only [decide_eq_true hp, cond_true, Option.bind_some, hsg, chargenetref01_Valid_p29, ident_Valid_p36, wsucc pos (by omega)]
      by_cases ha : sGet s pos < 128
      · obtain ⟨d1, d2⟩ := dec_lo hp ha
        obtain ⟨v2, hv2, hsg2⟩ := value_sign 300000060 (sGet s pos)
        have ih := valid_l s hs n (pos + 1)
        simp only [d1, d2, hv2, Option.bind_some, hsg2, ih]
        by_cases c1 : sGet s pos = 45
        · simp [c1, alnum]
        by_cases c2 : sGet s pos = 95
        · simp [c2, alnum]
        by_cases c3 : sGet s pos = 46
        · simp [c3, alnum]
        by_cases c4 : sGet s pos = 58
        · simp [c4, alnum]
        by_cases c5 : sGet s pos = 42
        · simp [c5, alnum]
        simp only [c1, c2, c3, c4, c5, decide_false, cond_false, Bool.not_false, cond_true]
      · have hd := dec_hi hp (by omega)
        obtain ⟨v2, hv2, hsg2⟩ := value_sign 300000060 ((Utf8.decode s pos).1 : Int)
        have a1 : alnum ((Utf8.decode s pos).1 : Int) = false := by simp [alnum]; omega
        have a2 : alnum (sGet s pos) = false := by simp [alnum]; omega
        have n1 : ¬ ((Utf8.decode s pos).1 : Int) = 45 := by omega
        have n2 : ¬ ((Utf8.decode s pos).1 : Int) = 95 := by omega
        have n3 : ¬ ((Utf8.decode s pos).1 : Int) = 46 := by omega
        have n4 : ¬ ((Utf8.decode s pos).1 : Int) = 58 := by omega
        have n5 : ¬ ((Utf8.decode s pos).1 : Int) = 42 := by omega
        have m1 : ¬ sGet s pos = 45 := by omega
        have m2 : ¬ sGet s pos = 95 := by omega
        have m3 : ¬ sGet s pos = 46 := by omega
        have m4 : ¬ sGet s pos = 58 := by omega
        have m5 : ¬ sGet s pos = 42 := by omega
        simp only [hv2, Option.bind_some, hsg2, a1, a2, n1, n2, n3, n4, n5, m1, m2, m3, m4, m5, decide_false, cond_false, Bool.not_false, cond_true]
    · have e1 : decide ((pos : Int) < (s.size : Int)) = false := by simp; omega
      rw [e1, decide_eq_false hp]
      rfl
theorem ident_eq (s : ByteArray) : ident_Valid 300000060 s = chargenetref01_Valid 300000060 s := by
  unfold ident_Valid chargenetref01_Valid
  cases decide ((s.size : Int) < 1) with
  | true => rfl
  | false =>
    simp only [cond_false]
    cases h : decide ((36 : Int) < (s.size : Int)) with
    | true => rfl
    | false =>
      simp only [cond_false]
      have := of_decide_eq_false h
      exact valid_l s (by omega) 300000060 0
theorem last_eq (k : Int) : ∃ c g, profile_cycle 300000060 k = some c ∧ chargenetref15_last 300000060 k = some g ∧ (0 < c → IntKind.wrap .i64 (c - 1) = g) ∧ (¬ 0 < c → g = 268435456) := by
  unfold profile_cycle profile_cycle_p5 profile_cycle_p4 profile_cycle_p2 chargenetref15_last
  by_cases h3 : k = 3
  · subst h3; exact ⟨10080, 10079, by rfl, by rfl, fun _ => by rfl, fun h => absurd h (by decide)⟩
  · by_cases h2 : k = 2
    · subst h2; exact ⟨1440, 1439, by rfl, by rfl, fun _ => by rfl, fun h => absurd h (by decide)⟩
    · exact ⟨0, 268435456, by simp [h3, h2]; rfl, by simp [h3, h2], fun h => absurd h (by decide), fun _ => rfl⟩
theorem periods_l (p : SProfile) (hp : p.Periods.length ≤ 30) (g : Int) (hg : chargenetref15_last 300000060 p.Kind = some g) : ∀ (n t : Nat), profile_periods_l28 p g n (t : Int) = chargenetref15_Valid_l49 300000060 p n (t : Int)
  | 0, t => rfl
  | n + 1, t => by
    simp only [profile_periods_l28, profile_periods_b28, chargenetref15_Valid_l49, chargenetref15_Valid_b49]
    by_cases ht : t < p.Periods.length
    · have e1 : decide ((t : Int) < (p.Periods.length : Int)) = true := by simpa using ht
      have e2 : 0 ≤ (t : Int) ∧ (t : Int) < (p.Periods.length : Int) := by omega
      have ih := periods_l p hp g hg n (t + 1)
      rw [e1, cond_true, cond_true, guard_pos e2, guard_pos e2]
      simp only [profile_periods_p38, profile_periods_p33, chargenetref15_Valid_p54, wsucc t (by omega), ih, hg, Option.bind_some]
    · have e1 : decide ((t : Int) < (p.Periods.length : Int)) = false := by simp; omega
      rw [e1]
      try rfl
theorem bind_some_id {α : Type} (x : Option α) : (x.bind fun c => some c) = x := by cases x <;> rfl
theorem times_eq (p : SProfile) : profile_times 300000060 p = chargenetref15_times 300000060 p := rfl
theorem numbers_eq (p : SProfile) : profile_numbers 300000060 p = chargenetref15_first 300000060 p := rfl
theorem valid_eq (p : SProfile) (hp : p.Periods.length ≤ 30) : profile_Valid 300000060 p = chargenetref15_Valid 300000060 p := by
  have h11 : profile_Valid_p11 300000060 p = chargenetref15_Valid_p69 300000060 p := by
    unfold profile_Valid_p11 chargenetref15_Valid_p69 profile_periods profile_periods_p41
    rw [times_eq]
    obtain ⟨c, g, hc, hg, h1, h2⟩ := last_eq p.Kind
    have hl := periods_l p hp g hg 300000060 0
    rw [hc]
    simp only [Option.bind_some]
    by_cases h0 : 0 < c
    · simp only [h0, decide_true, cond_true, h1 h0]
      simp only [Int.natCast_zero] at hl
      simp only [hl, bind_some_id]
    · simp only [h0, decide_false, cond_false]
      rw [h2 h0] at hl
      simp only [Int.natCast_zero] at hl
      simp only [hl, bind_some_id]
  unfold profile_Valid chargenetref15_Valid profile_Valid_p20 profile_Valid_p17 profile_Valid_p14 chargenetref15_Valid_p76
  rw [numbers_eq, ident_eq]
  simp only [h11]
  try (cases decide (p.Purpose = 3) <;> rfl)
def small (p : SProfile) : Bool := decide (p.Periods.length ≤ 30)
theorem clone_eq (F : Nat) (p : SProfile) (h : p.Periods.length ≤ 30) : profile_clone F p = some p := by
  unfold profile_clone slices_Clone_api_Period_api_Period
  rw [guard_pos (by simp; omega)]
  simp
theorem clear_l (F : Nat) (l : List SProfile) (id : Int) (hl : l.length ≤ 20) (hs : l.all small = true) : ∀ (n t : Nat) (o : List SProfile), t ≤ l.length → l.length < n + t → o.length ≤ t →
    profile_Clear_l22 F l id n (t : Int) o = profile_Clear_p3 l (o ++ (l.drop t).filter fun p => !decide (p.ID = id))
  | 0, t, o, h1, h2, h3 => by omega
  | n + 1, t, o, h1, h2, h3 => by
    simp only [profile_Clear_l22, profile_Clear_b22]
    by_cases ht : t < l.length
    · have e1 : decide ((t : Int) < (l.length : Int)) = true := by simpa using ht
      have e2 : 0 ≤ (t : Int) ∧ (t : Int) < (l.length : Int) := by omega
      have hp : l[t].Periods.length ≤ 30 := by
        have := List.all_eq_true.1 hs l[t] (List.getElem_mem ht)
        simpa [small] using this
      rw [e1, cond_true, guard_pos e2, getD_nat l _ t ht, clone_eq F _ hp, List.drop_eq_getElem_cons ht]
      simp only [Option.bind_some, profile_Clear_p25, wsucc t (by omega)]
      cases hd : decide (l[t].ID = id) with
      | true =>
        simp only [Bool.not_true, cond_false, List.filter_cons, hd]
        exact clear_l F l id hl hs n (t + 1) o (by omega) (by omega) (by omega)
      | false =>
        simp only [Bool.not_false, cond_true, List.filter_cons, hd]
        rw [guard_pos (by simp; omega)]
        have := clear_l F l id hl hs n (t + 1) (o ++ [l[t]]) (by omega) (by omega) (by simp; omega)
        rw [this]; simp
    · have e1 : decide ((t : Int) < (l.length : Int)) = false := by simp; omega
      rw [e1, cond_false, List.drop_eq_nil_of_le (by omega)]
      simp
theorem clear_eq (l : List SProfile) (id : Int) (hl : l.length ≤ 20) (hs : l.all small = true) : profile_Clear 300000060 l id = profile_Clear_p3 l (l.filter fun p => !decide (p.ID = id)) := by
  have := clear_l 300000060 l id hl hs 300000060 0 [] (by omega) (by omega) (by simp)
  simpa [profile_Clear] using this
theorem periods_total (p : SProfile) (hp : p.Periods.length ≤ 30) (g : Int) : ∀ (n t : Nat), t ≤ p.Periods.length → p.Periods.length < n + t → ∃ v, profile_periods_l28 p g n (t : Int) = some v
  | 0, t, h1, h2 => by omega
  | n + 1, t, h1, h2 => by
    simp only [profile_periods_l28, profile_periods_b28]
    by_cases ht : t < p.Periods.length
    · have e1 : decide ((t : Int) < (p.Periods.length : Int)) = true := by simpa using ht
      have e2 : 0 ≤ (t : Int) ∧ (t : Int) < (p.Periods.length : Int) := by omega
      obtain ⟨v, hv⟩ := periods_total p hp g n (t + 1) (by omega) (by omega)
      rw [e1, cond_true, guard_pos e2]
      simp only [profile_periods_p38, profile_periods_p33, wsucc t (by omega), hv]
      have h33 : ∃ u, (bif decide ((p.Periods.getD ((t : Int)).toNat dSPeriod).Limit < 0) then some 2 else bif decide (1048576 < (p.Periods.getD ((t : Int)).toNat dSPeriod).Limit) then some 2 else some v) = some u :=
        opt_cond (opt_some _) (opt_cond (opt_some _) (opt_some _))
      have h38 : ∃ u, (bif decide (0 < (t : Int)) then E.guard (0 ≤ IntKind.wrap .i64 ((t : Int) - 1) ∧ IntKind.wrap .i64 ((t : Int) - 1) < (p.Periods.length : Int)) (bif decide ((p.Periods.getD ((t : Int)).toNat dSPeriod).At ≤ (p.Periods.getD (IntKind.wrap .i64 ((t : Int) - 1)).toNat dSPeriod).At) then some 1 else bif decide (g < (p.Periods.getD ((t : Int)).toNat dSPeriod).At) then some 1 else bif decide ((p.Periods.getD ((t : Int)).toNat dSPeriod).Limit < 0) then some 2 else bif decide (1048576 < (p.Periods.getD ((t : Int)).toNat dSPeriod).Limit) then some 2 else some v) else bif decide ((p.Periods.getD ((t : Int)).toNat dSPeriod).Limit < 0) then some 2 else bif decide (1048576 < (p.Periods.getD ((t : Int)).toNat dSPeriod).Limit) then some 2 else some v) = some u := by
        by_cases h0 : (0 : Int) < (t : Int)
        · rw [decide_eq_true h0, cond_true, guard_pos (by rw [Go.IntWalk.i64_in _ (by omega)]; omega)]
          exact opt_cond (opt_some _) (opt_cond (opt_some _) h33)
        · rw [decide_eq_false h0, cond_false]; exact h33
      exact opt_cond (opt_cond (opt_some _) h38) h38
    · have e1 : decide ((t : Int) < (p.Periods.length : Int)) = false := by simp; omega
      rw [e1]; exact ⟨_, rfl⟩
theorem times_total (p : SProfile) : ∃ b, profile_times 300000060 p = some b := by
  have h5 : ∃ b, profile_times_p5 p = some b := opt_cond (opt_some _) (opt_cond (opt_some _) (opt_some _))
  have h10 : ∃ b, profile_times_p10 p = some b := opt_cond (opt_some _) (opt_cond (opt_some _) (opt_cond (opt_cond (opt_some _) h5) h5))
  exact opt_cond (opt_some _) (opt_cond (opt_some _) (opt_cond (opt_cond (opt_some _) (opt_cond (opt_some _) h10)) h10))
theorem numbers_total (p : SProfile) : ∃ b, profile_numbers 300000060 p = some b := by
  unfold profile_numbers
  repeat (first | exact opt_some _ | refine opt_cond ?_ (opt_some _))
theorem valid_total (p : SProfile) (hp : p.Periods.length ≤ 30) : ∃ v, profile_Valid 300000060 p = some v := by
  have h11 : ∃ v, profile_Valid_p11 300000060 p = some v := by
    unfold profile_Valid_p11 profile_periods profile_periods_p41
    obtain ⟨c, g, hc, _⟩ := last_eq p.Kind
    refine opt_bind (times_total p) fun b => opt_cond (opt_some _) (opt_cond (opt_some _) (opt_cond (opt_some _) (opt_bind ?_ fun v => opt_some v)))
    rw [hc]
    exact opt_cond (periods_total p hp _ 300000060 0 (by omega) (by omega)) (periods_total p hp _ 300000060 0 (by omega) (by omega))
  have h14 : ∃ v, profile_Valid_p14 300000060 p = some v := opt_cond (opt_cond (opt_some _) h11) h11
  have h17 : ∃ v, profile_Valid_p17 300000060 p = some v := opt_cond (opt_cond (opt_some _) h14) h14
  have h20 : ∃ v, profile_Valid_p20 300000060 p = some v := opt_cond (opt_cond (opt_some _) h17) h17
  unfold profile_Valid
  refine opt_bind (numbers_total p) fun b => opt_cond (opt_some _) (opt_cond (opt_bind ?_ fun c => opt_cond (opt_some _) h20) h20)
  rw [ident_eq]; exact ident_total p.Txn
def keepB (p q : SProfile) : Bool := !decide (q.ID = p.ID) && !(decide (q.Purpose = p.Purpose) && (decide (q.Level = p.Level) && (decide (q.Conn = p.Conn) && sEq q.Txn p.Txn)))
def putEnd (l : List SProfile) (p : SProfile) (o : List SProfile) : Option (List SProfile × Int) := bif decide (16 ≤ (o.length : Int)) then some (l, 3) else some (o ++ [p], 0)
theorem p9_eq (l : List SProfile) (p : SProfile) (o : List SProfile) (hp : p.Periods.length ≤ 30) (ho : o.length ≤ 20) : profile_Put_p9 300000060 l p o = putEnd l p o := by
  unfold profile_Put_p9 putEnd
  rw [clone_eq 300000060 p hp]
  simp only [Option.bind_some]
  rw [guard_pos (by simp; omega)]
theorem put_l (l : List SProfile) (p : SProfile) (hl : l.length ≤ 20) (hs : l.all small = true) (hp : p.Periods.length ≤ 30) : ∀ (n t : Nat) (o : List SProfile), t ≤ l.length → l.length < n + t → o.length ≤ t →
    profile_Put_l38 300000060 l p n (t : Int) o = putEnd l p (o ++ (l.drop t).filter (keepB p))
  | 0, t, o, h1, h2, h3 => by omega
  | n + 1, t, o, h1, h2, h3 => by
    simp only [profile_Put_l38, profile_Put_b38]
    by_cases ht : t < l.length
    · have e1 : decide ((t : Int) < (l.length : Int)) = true := by simpa using ht
      have e2 : 0 ≤ (t : Int) ∧ (t : Int) < (l.length : Int) := by omega
      have hq : l[t].Periods.length ≤ 30 := by
        have := List.all_eq_true.1 hs l[t] (List.getElem_mem ht)
        simpa [small] using this
      have ih0 := put_l l p hl hs hp n (t + 1) o (by omega) (by omega) (by omega)
      have ih1 := put_l l p hl hs hp n (t + 1) (o ++ [l[t]]) (by omega) (by omega) (by simp; omega)
      have hk : profile_Put_p47 300000060 l (t : Int) o (fun t18_23 o1_24 => profile_Put_l38 300000060 l p n t18_23 o1_24) = putEnd l p (o ++ [l[t]] ++ (l.drop (t + 1)).filter (keepB p)) := by
        unfold profile_Put_p47 profile_Put_p41
        rw [getD_nat l _ t ht, clone_eq 300000060 _ hq]
        simp only [Option.bind_some]
        rw [guard_pos (by simp; omega), wsucc t (by omega)]
        exact ih1
      rw [e1, cond_true, guard_pos e2, hk, getD_nat l _ t ht, List.drop_eq_getElem_cons ht]
      simp only [profile_Put_p41, wsucc t (by omega), ih0, List.filter_cons, keepB]
      by_cases a1 : l[t].ID = p.ID <;> by_cases a2 : l[t].Purpose = p.Purpose <;> by_cases a3 : l[t].Level = p.Level <;> by_cases a4 : l[t].Conn = p.Conn <;> by_cases a5 : sEq l[t].Txn p.Txn = true <;> simp [a1, a2, a3, a4, a5]
    · have e1 : decide ((t : Int) < (l.length : Int)) = false := by simp; omega
      rw [e1, cond_false, List.drop_eq_nil_of_le (by omega), p9_eq l p o hp (by omega)]
      simp
def apart (a b : SProfile) : Prop := keepB b a = true
theorem apart_symm {a b : SProfile} (h : apart a b) : apart b a := by
  unfold apart keepB at *
  have e : sEq b.Txn a.Txn = sEq a.Txn b.Txn := by
    unfold sEq
    rw [Bool.eq_iff_iff, beq_iff_eq, beq_iff_eq]
    exact ⟨Eq.symm, Eq.symm⟩
  rw [e, show decide (b.ID = a.ID) = decide (a.ID = b.ID) from decide_eq_decide.2 ⟨Eq.symm, Eq.symm⟩, show decide (b.Purpose = a.Purpose) = decide (a.Purpose = b.Purpose) from decide_eq_decide.2 ⟨Eq.symm, Eq.symm⟩,
    show decide (b.Level = a.Level) = decide (a.Level = b.Level) from decide_eq_decide.2 ⟨Eq.symm, Eq.symm⟩, show decide (b.Conn = a.Conn) = decide (a.Conn = b.Conn) from decide_eq_decide.2 ⟨Eq.symm, Eq.symm⟩]
  exact h
theorem small_periods {p : SProfile} (h : small p = true) : p.Periods.length ≤ 30 := by
  simpa [small] using h
end Go.Proofs.Ytfbkimhoncfnmaa.M
