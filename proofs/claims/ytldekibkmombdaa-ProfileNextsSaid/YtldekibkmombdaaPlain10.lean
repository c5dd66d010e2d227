/- The limit of a valid profile in plain words, and the plain law of ProfileRecurs: one cycle later the limit is the same. -/
import Derived.Test.YtldekibkmombdaaPlain7
namespace Go.Proofs.Ytldekibkmombdaa.M
open Go Go.Proofs.Ytldekibkmombdaa.E Go.Proofs.Ytldekibkmombdaa.W
set_option linter.unusedVariables false
set_option linter.unusedSimpArgs false

def org (p : SProfile) (start : Int) : Int := if p.Kind = 4 then start else p.Start
def cyc (k : Int) : Int := if k = 3 then 10080 else if k = 2 then 1440 else 0
def per : List SPeriod → Int → Int → Int
  | [], _, n => n
  | d :: l, past, n => per l past (if d.At ≤ past then d.Limit else n)
def past (p : SProfile) (start t : Int) : Int := if cyc p.Kind = 0 then t - org p start else (t - org p start) % cyc p.Kind
def lim (p : SProfile) (start t : Int) : Int × Bool :=
  if t < p.Span_From then (0, false) else if p.Span_To ≠ -1 ∧ p.Span_To ≤ t then (0, false)
  else if t < org p start then (0, false) else if p.Duration ≠ -1 ∧ p.Duration ≤ past p start t then (0, false)
  else (per p.Periods (past p start t) 0, true)

theorem cyc_ref (k : Int) : chargenetref15_cycle 300000060 k = some (cyc k) := by
  unfold chargenetref15_cycle cyc
  by_cases h3 : k = 3
  · subst h3; rfl
  · by_cases h2 : k = 2
    · subst h2; rfl
    · simp [h3, h2]

theorem cyc_prof (k : Int) : profile_cycle 300000060 k = some (cyc k) := by
  obtain ⟨c, h1, h2, _⟩ := cycles k
  rw [cyc_ref] at h2; rw [h1, h2]

theorem cyc_cases (k : Int) : (cyc k = 0 ∧ k ≠ 2 ∧ k ≠ 3) ∨ (cyc k = 1440 ∧ k = 2) ∨ (cyc k = 10080 ∧ k = 3) := by
  unfold cyc
  by_cases h3 : k = 3
  · simp [h3]
  · by_cases h2 : k = 2 <;> simp [h3, h2]

theorem past_bound (p : SProfile) (v : VOk p) (start t : Int) (hs : -9223372036854775808 ≤ start ∧ start ≤ 9223372036854775807) (ht : -9223372036854775808 ≤ t ∧ t ≤ 9223372036854775807) (ho : org p start ≤ t) :
    0 ≤ past p start t ∧ past p start t < 18446744073709551616 ∧ past p start t ≤ t - org p start := by
  have hst := v.start
  have hb : -9223372036854775808 ≤ org p start := by unfold org; split <;> omega
  unfold past
  rcases cyc_cases p.Kind with ⟨h, _⟩ | ⟨h, _⟩ | ⟨h, _⟩ <;> rw [h] <;> simp <;> omega

theorem origin_ref (p : SProfile) (v : VOk p) (start t : Int) (hs : -9223372036854775808 ≤ start ∧ start ≤ 9223372036854775807) (ht : -9223372036854775808 ≤ t ∧ t ≤ 9223372036854775807) :
    chargenetref15_origin 300000060 p start t = some (if t < org p start then (0, false) else (t - past p start t, true)) := by
  have hst := v.start
  unfold chargenetref15_origin chargenetref15_origin_p9
  rw [cyc_ref]
  simp only [Option.bind_some, chargenetref15_origin_p4]
  by_cases h4 : p.Kind = 4
  · have hc : cyc p.Kind = 0 := by rw [h4]; rfl
    simp only [past, org, h4, decide_true, cond_true, if_true]
    have hc4 : cyc 4 = 0 := rfl
    by_cases hlt : t < start
    · simp [hlt]
    · simp [hlt, hc4]; omega
  · simp only [past, org, h4, decide_false, cond_false, if_false]
    by_cases hlt : t < p.Start
    · simp [hlt]
    · simp only [hlt, decide_false, cond_false, if_false]
      have e4 : IntKind.wrap .i64 (t - p.Start) = t - p.Start := Go.IntWalk.i64_in _ (by omega)
      rw [e4]
      rcases cyc_cases p.Kind with ⟨h, _⟩ | ⟨h, _⟩ | ⟨h, _⟩
      · rw [h]; simp; omega
      · rw [h, Int.tmod_eq_emod_of_nonneg (by omega)]
        have e7 : IntKind.wrap .i64 (t - (t - p.Start) % 1440) = t - (t - p.Start) % 1440 := Go.IntWalk.i64_in _ (by omega)
        rw [e7]; rfl
      · rw [h, Int.tmod_eq_emod_of_nonneg (by omega)]
        have e7 : IntKind.wrap .i64 (t - (t - p.Start) % 10080) = t - (t - p.Start) % 10080 := Go.IntWalk.i64_in _ (by omega)
        rw [e7]; rfl

theorem lim_per (p : SProfile) (v : VOk p) (t : Int) (c : Int × Bool) (ps : Int) (hp : IntKind.wrap .u64 (IntKind.wrap .u64 t - IntKind.wrap .u64 c.1) = ps) : ∀ (n i : Nat) (lim : Int), i ≤ p.Periods.length → p.Periods.length < n + i →
    chargenetref15_Limit_l19 p t c n lim (i : Int) = some (per (p.Periods.drop i) ps lim, true)
  | 0, i, lim, h1, h2 => by omega
  | n + 1, i, lim, h1, h2 => by
    have hlen := v.len
    simp only [chargenetref15_Limit_l19, chargenetref15_Limit_b19]
    by_cases hi : i < p.Periods.length
    · have e1 : decide ((i : Int) < (p.Periods.length : Int)) = true := by simpa using hi
      have e2 : 0 ≤ (i : Int) ∧ (i : Int) < (p.Periods.length : Int) := by omega
      have ha := (v.at0 i hi)
      have e3 : IntKind.wrap .u64 p.Periods[i].At = p.Periods[i].At := Go.IntWalk.u64_in _ (by omega)
      rw [e1, cond_true, guard_pos e2, guard_pos e2, getD_nat p.Periods _ i hi, e3, hp, List.drop_eq_getElem_cons hi]
      simp only [chargenetref15_Limit_p22, wsucc i (by omega), per]
      by_cases hle : p.Periods[i].At ≤ ps
      · simp only [hle, decide_true, cond_true, if_true]; exact lim_per p v t c ps hp n (i + 1) _ (by omega) (by omega)
      · simp only [hle, decide_false, cond_false, if_false]; exact lim_per p v t c ps hp n (i + 1) _ (by omega) (by omega)
    · have e1 : decide ((i : Int) < (p.Periods.length : Int)) = false := by simp; omega
      rw [e1, List.drop_eq_nil_of_le (by omega)]; rfl

theorem ref_lim (p : SProfile) (v : VOk p) (start t : Int) (hs : -9223372036854775808 ≤ start ∧ start ≤ 9223372036854775807) (ht : -9223372036854775808 ≤ t ∧ t ≤ 9223372036854775807) :
    chargenetref15_Limit 300000060 p start t = some (lim p start t) := by
  have hlen := v.len
  have hdur := v.dur
  unfold chargenetref15_Limit chargenetref15_Limit_p30 lim
  rw [origin_ref p v start t hs ht]
  by_cases h1 : t < p.Span_From
  · simp [h1]
  · simp only [h1, decide_false, cond_false, if_false]
    have key : ((some (if t < org p start then ((0 : Int), false) else (t - past p start t, true))).bind fun c_1 => bif (!c_1.2) then (some ((0, false))) else (bif (!decide (p.Duration = (-1))) then (bif decide (IntKind.wrap .u64 p.Duration ≤ IntKind.wrap .u64 (IntKind.wrap .u64 t - IntKind.wrap .u64 c_1.1)) then (some ((0, false))) else (chargenetref15_Limit_p26 300000060 p t c_1)) else (chargenetref15_Limit_p26 300000060 p t c_1)))
        = some (if t < org p start then (0, false) else if p.Duration ≠ -1 ∧ p.Duration ≤ past p start t then (0, false)
  else (per p.Periods (past p start t) 0, true)) := by
      by_cases ho : t < org p start
      · simp [ho]
      · obtain ⟨b1, b2, b3⟩ := past_bound p v start t hs ht (by omega)
        simp only [ho, if_false, Option.bind_some, Bool.not_true, cond_false]
        have hps : IntKind.wrap .u64 (IntKind.wrap .u64 t - IntKind.wrap .u64 (t - past p start t)) = past p start t := by
          simp only [IntKind.wrap_u64]; omega
        have hl : chargenetref15_Limit_p26 300000060 p t (t - past p start t, true) = some (per p.Periods (past p start t) 0, true) := by
          have h := lim_per p v t (t - past p start t, true) _ hps 300000060 0 0 (by omega) (by omega)
          unfold chargenetref15_Limit_p26; simpa only [Int.natCast_zero, List.drop_zero] using h
        rw [hl, hps]
        by_cases hd : p.Duration = -1
        · simp [hd]
        · have e5 : IntKind.wrap .u64 p.Duration = p.Duration := Go.IntWalk.u64_in _ (by omega)
          rw [e5]
          by_cases hd2 : p.Duration ≤ past p start t <;> simp [hd, hd2]
    rw [key]
    by_cases h2 : p.Span_To = -1
    · simp [h2]
    · by_cases h3 : p.Span_To ≤ t <;> simp [h2, h3]

theorem prof_lim (p : SProfile) (v : VOk p) (start t : Int) (hs : -9223372036854775808 ≤ start ∧ start ≤ 9223372036854775807) (ht : -9223372036854775808 ≤ t ∧ t ≤ 9223372036854775807) :
    profile_Limit 300000060 p start t = some (lim p start t) := by
  obtain ⟨r, h1, h2⟩ := limit_eq p v start t hs ht
  rw [ref_lim p v start t hs ht] at h2; rw [h1, h2]

theorem per_mem : ∀ (l : List SPeriod) (ps n : Int), per l ps n = n ∨ ∃ d ∈ l, d.Limit = per l ps n
  | [], ps, n => .inl rfl
  | d :: l, ps, n => by
    simp only [per]
    rcases per_mem l ps (if d.At ≤ ps then d.Limit else n) with h | ⟨e, he, h⟩
    · rw [h]
      by_cases hd : d.At ≤ ps
      · rw [if_pos hd]; exact .inr ⟨d, List.mem_cons_self .., rfl⟩
      · rw [if_neg hd]; exact .inl rfl
    · exact .inr ⟨e, List.mem_cons_of_mem _ he, h⟩

theorem per_some (p : SProfile) (v : VOk p) (ps : Int) (hp : 0 ≤ ps) : ∃ d ∈ p.Periods, d.Limit = per p.Periods ps 0 := by
  have hlen := v.len
  have h0 := (v.at0 0 hlen.1).2.2 rfl
  match hl : p.Periods with
  | [] => rw [hl] at hlen; simp at hlen
  | d :: l =>
    have hd : d.At = 0 := by simpa [hl] using h0
    simp only [per]
    rcases per_mem l ps (if d.At ≤ ps then d.Limit else 0) with h | ⟨e, he, h⟩
    · rw [h, if_pos (by omega)]; exact ⟨d, List.mem_cons_self .., rfl⟩
    · exact ⟨e, List.mem_cons_of_mem _ he, h⟩

theorem recurs_l (p : SProfile) (hp : p.Periods.length ≤ 30) (c2 c4 : Int × Bool) (h1 : c2.1 = c4.1) (h2 : c2.2 = true) (h3 : c4.2 = true) : ∀ (n i : Nat) (b : Bool), i ≤ p.Periods.length → p.Periods.length < n + i →
    (b = true ∨ ∃ d ∈ p.Periods.drop i, d.Limit = c2.1) → chargenetlaw15_ProfileRecurs_l23 300000060 p c2 c4 n b (i : Int) = some true
  | 0, i, b, g1, g2, _ => by omega
  | n + 1, i, b, g1, g2, hb => by
    simp only [chargenetlaw15_ProfileRecurs_l23, chargenetlaw15_ProfileRecurs_b23]
    by_cases hi : i < p.Periods.length
    · have e1 : decide ((i : Int) < (p.Periods.length : Int)) = true := by simpa using hi
      have e2 : 0 ≤ (i : Int) ∧ (i : Int) < (p.Periods.length : Int) := by omega
      rw [e1, cond_true, guard_pos e2, getD_nat p.Periods _ i hi]
      simp only [chargenetlaw15_ProfileRecurs_p26, wsucc i (by omega)]
      cases b with
      | true => exact recurs_l p hp c2 c4 h1 h2 h3 n (i + 1) true (by omega) (by omega) (.inl rfl)
      | false =>
        refine recurs_l p hp c2 c4 h1 h2 h3 n (i + 1) _ (by omega) (by omega) ?_
        rcases hb with hb | ⟨d, hd, he⟩
        · cases hb
        · rw [List.drop_eq_getElem_cons hi] at hd
          rcases List.mem_cons.1 hd with rfl | hd
          · left; simpa using he
          · exact .inr ⟨d, hd, he⟩
    · have e1 : decide ((i : Int) < (p.Periods.length : Int)) = false := by simp; omega
      rw [e1, cond_false]
      rcases hb with rfl | ⟨d, hd, he⟩
      · simp [chargenetlaw15_ProfileRecurs_p13, h1, h2, h3, awake60]
      · rw [List.drop_eq_nil_of_le (by omega)] at hd; cases hd

theorem recurs_p29 (p : SProfile) (v : VOk (SProfile.mk p.ID p.Level p.Purpose p.Kind p.Conn p.Txn p.Span_From ((-1)) p.Start ((-1)) p.Periods)) (hp : p.Periods.length ≤ 30) (start t : Int)
    (hs : -9223372036854775808 ≤ start ∧ start ≤ 9223372036854775807) (h1 : p.Start ≤ t) (h2 : p.Span_From ≤ t) (h3 : t ≤ 268435456) (hc : cyc p.Kind ≠ 0) :
    chargenetlaw15_ProfileRecurs_p29 300000060 p start t (cyc p.Kind) = some true := by
  have hst := v.start
  simp only at hst
  have hcc := cyc_cases p.Kind
  have hw : IntKind.wrap .i64 (t + cyc p.Kind) = t + cyc p.Kind := Go.IntWalk.i64_in _ (by omega)
  unfold chargenetlaw15_ProfileRecurs_p29
  rw [hw, prof_lim _ v start t hs (by omega), prof_lim _ v start (t + cyc p.Kind) hs (by omega)]
  simp only [Option.bind_some]
  have hk : p.Kind ≠ 4 := fun h => hc (by rw [h]; rfl)
  have ho : org (SProfile.mk p.ID p.Level p.Purpose p.Kind p.Conn p.Txn p.Span_From ((-1)) p.Start ((-1)) p.Periods) start = p.Start := by simp [org, hk]
  have hpe : past (SProfile.mk p.ID p.Level p.Purpose p.Kind p.Conn p.Txn p.Span_From ((-1)) p.Start ((-1)) p.Periods) start (t + cyc p.Kind) = past (SProfile.mk p.ID p.Level p.Purpose p.Kind p.Conn p.Txn p.Span_From ((-1)) p.Start ((-1)) p.Periods) start t := by
    unfold past
    rw [ho]
    simp only [hc, if_false]
    rw [show t + cyc p.Kind - p.Start = (t - p.Start) + cyc p.Kind by omega, Int.add_emod_right]
  have hl1 : lim (SProfile.mk p.ID p.Level p.Purpose p.Kind p.Conn p.Txn p.Span_From ((-1)) p.Start ((-1)) p.Periods) start t = (per p.Periods (past (SProfile.mk p.ID p.Level p.Purpose p.Kind p.Conn p.Txn p.Span_From ((-1)) p.Start ((-1)) p.Periods) start t) 0, true) := by
    unfold lim
    rw [ho, if_neg (by simp only; omega), if_neg (by simp), if_neg (by omega), if_neg (by simp)]
  have hl2 : lim (SProfile.mk p.ID p.Level p.Purpose p.Kind p.Conn p.Txn p.Span_From ((-1)) p.Start ((-1)) p.Periods) start (t + cyc p.Kind) = (per p.Periods (past (SProfile.mk p.ID p.Level p.Purpose p.Kind p.Conn p.Txn p.Span_From ((-1)) p.Start ((-1)) p.Periods) start t) 0, true) := by
    unfold lim
    rw [ho, hpe, if_neg (by simp only; omega), if_neg (by simp), if_neg (by omega), if_neg (by simp)]
  rw [hl1, hl2]
  have hp0 := (past_bound _ v start t hs (by omega) (by rw [ho]; exact h1)).1
  exact recurs_l p hp _ _ rfl rfl rfl 300000060 0 false (by omega) (by omega) (.inr (by simpa using per_some _ v _ hp0))

theorem plain_chargenetlaw15_ProfileRecurs (a0 : SProfile) (a1 : Int) (a2 : Int) (w0 : okSProfile a0) (w1 : (Lit.int .i64 a1).wf = true) (w2 : (Lit.int .i64 a2).wf = true) : ∃ F, chargenetlaw15_ProfileRecurs F a0 a1 a2 = some true := by
  refine ⟨300000060, ?_⟩
  unfold chargenetlaw15_ProfileRecurs
  rw [awake60]
  rcases right_eq (SProfile.mk a0.ID a0.Level a0.Purpose a0.Kind a0.Conn a0.Txn a0.Span_From ((-1)) a0.Start ((-1)) a0.Periods) with h | ⟨h, hp, _, v⟩
  · rw [h]; rfl
  · rw [h]
    have hrest : ∀ (hk : a0.Kind = 2 ∨ a0.Kind = 3), (bif decide (a2 < a0.Start) then some true else bif decide (a2 < a0.Span_From) then some true else bif decide (268435456 < a2) then some true else chargenetlaw15_ProfileRecurs_p31 300000060 a0 a1 a2) = some true := by
      intro hk
      by_cases g1 : a2 < a0.Start
      · simp [g1]
      by_cases g2 : a2 < a0.Span_From
      · simp [g1, g2]
      by_cases g3 : 268435456 < a2
      · simp [g1, g2, g3]
      simp only [g1, g2, g3, decide_false, cond_false]
      unfold chargenetlaw15_ProfileRecurs_p31
      have key := recurs_p29 a0 v hp a1 a2 (wf64 w1) (by omega) (by omega) (by omega)
      rcases hk with hk | hk
      · have : cyc a0.Kind = 1440 := by rw [hk]; rfl
        rw [this] at key
        simpa [hk] using key
      · have : cyc a0.Kind = 10080 := by rw [hk]; rfl
        rw [this] at key
        simpa [hk] using key
    by_cases hk2 : a0.Kind = 2
    · have := hrest (.inl hk2)
      simpa [hk2] using this
    · by_cases hk3 : a0.Kind = 3
      · have := hrest (.inr hk3)
        simpa [hk3] using this
      · simp [hk2, hk3]
end Go.Proofs.Ytldekibkmombdaa.M
