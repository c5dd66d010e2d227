/- The plain law of ProfilesCompose. -/
import Derived.Test.YtfbkimhoncfnmaaPlainE
namespace Go.Proofs.Ytfbkimhoncfnmaa.M
open Go Go.Proofs.Ytfbkimhoncfnmaa.E Go.Proofs.Ytfbkimhoncfnmaa.W
set_option linter.unusedVariables false
set_option linter.unusedSimpArgs false

/-! ### What is valid -/
def LOk (p : SProfile) : Prop := ∀ d ∈ p.Periods, 0 ≤ d.Limit ∧ d.Limit ≤ 1048576
theorem valid_lims (p : SProfile) (h : chargenetref15_Valid 300000060 p = some 0) : LOk p := by
  unfold chargenetref15_Valid at h
  obtain ⟨b, hb, h⟩ := bind_out' h
  cases b with
  | false => cases h
  | true =>
    simp only [Bool.not_true, cond_false] at h
    have h76 : chargenetref15_Valid_p76 300000060 p = some 0 := by
      rcases cond_some h with ⟨_, h⟩ | ⟨_, h⟩
      · obtain ⟨c, hc, h⟩ := bind_out' h
        rcases cond_some h with ⟨_, h⟩ | ⟨_, h⟩
        · cases h
        · rcases cond_some h with ⟨_, h⟩ | ⟨_, h⟩
          · rcases cond_some h with ⟨_, h⟩ | ⟨_, h⟩
            · cases h
            · exact h
          · exact h
      · rcases cond_some h with ⟨_, h⟩ | ⟨_, h⟩
        · rcases cond_some h with ⟨_, h⟩ | ⟨_, h⟩
          · cases h
          · exact h
        · exact h
    obtain ⟨ht, hl1, hl2, hl⟩ := p69_ok p (p76_ok p h76)
    obtain ⟨g, hg, _⟩ := last_ref p.Kind
    have hall := valid_l_ok p (by omega) g hg 300000060 0 (by simpa using hl) (by omega)
    intro d hd
    obtain ⟨i, hi, rfl⟩ := List.getElem_of_mem hd
    exact (hall i hi (by omega)).2.2

theorem oc {α : Type} {Q : α → Prop} {b : Bool} {x y : Option α} (hx : ∃ v, x = some v ∧ Q v) (hy : ∃ v, y = some v ∧ Q v) : ∃ v, (bif b then x else y) = some v ∧ Q v := by
  cases b
  · exact hy
  · exact hx
theorem ob {α β : Type} {Q : β → Prop} {x : Option α} {f : α → Option β} (hx : ∃ v, x = some v) (hf : ∀ v, ∃ u, f v = some u ∧ Q u) : ∃ u, x.bind f = some u ∧ Q u := by
  obtain ⟨v, rfl⟩ := hx
  exact hf v
theorem valid_any (p : SProfile) : ∃ v, profile_Valid 300000060 p = some v ∧ (v = 0 → VOk p ∧ LOk p) := by
  by_cases hp : p.Periods.length ≤ 30
  · obtain ⟨v, hv⟩ := valid_total p hp
    refine ⟨v, hv, fun h => ?_⟩
    subst h
    rw [valid_eq p hp] at hv
    exact ⟨valid_ok p hv, valid_lims p hv⟩
  · have key : ∃ v, profile_Valid 300000060 p = some v ∧ v ≠ 0 := by
      have s2 : ∃ v, some (2 : Int) = some v ∧ v ≠ 0 := ⟨2, rfl, by decide⟩
      have s1 : ∃ v, some (1 : Int) = some v ∧ v ≠ 0 := ⟨1, rfl, by decide⟩
      have s3 : ∃ v, some (3 : Int) = some v ∧ v ≠ 0 := ⟨3, rfl, by decide⟩
      have s4 : ∃ v, some (4 : Int) = some v ∧ v ≠ 0 := ⟨4, rfl, by decide⟩
      have h11 : ∃ v, profile_Valid_p11 300000060 p = some v ∧ v ≠ 0 := by
        unfold profile_Valid_p11
        rw [decide_eq_true (show 24 < (p.Periods.length : Int) by omega)]
        exact ob (times_total p) fun b => oc s2 s3
      have h14 : ∃ v, profile_Valid_p14 300000060 p = some v ∧ v ≠ 0 := oc (oc s1 h11) h11
      have h17 : ∃ v, profile_Valid_p17 300000060 p = some v ∧ v ≠ 0 := oc (oc s1 h14) h14
      have h20 : ∃ v, profile_Valid_p20 300000060 p = some v ∧ v ≠ 0 := oc (oc s4 h17) h17
      unfold profile_Valid
      refine ob (numbers_total p) fun b => oc s2 (oc (ob ?_ fun c => oc s4 h20) h20)
      rw [ident_eq]; exact ident_total p.Txn
    obtain ⟨v, h1, h2⟩ := key
    exact ⟨v, h1, fun h => absurd h h2⟩

/-! ### The bounds of a composed limit -/
theorem per_bound : ∀ (l : List SPeriod) (ps n : Int), (∀ d ∈ l, 0 ≤ d.Limit ∧ d.Limit ≤ 1048576) → (0 ≤ n ∧ n ≤ 1048576) → 0 ≤ per l ps n ∧ per l ps n ≤ 1048576
  | [], _, n, _, hn => hn
  | d :: l, ps, n, h, hn => by
    rw [per]
    refine per_bound l ps _ (fun e he => h e (List.mem_cons_of_mem _ he)) ?_
    split
    · exact h d (List.mem_cons_self ..)
    · exact hn
theorem lim_bound (p : SProfile) (h : LOk p) (start u : Int) : 0 ≤ (lim p start u).1 ∧ (lim p start u).1 ≤ 1048576 := by
  unfold lim
  split
  · exact ⟨by decide, by decide⟩
  · split
    · exact ⟨by decide, by decide⟩
    · split
      · exact ⟨by decide, by decide⟩
      · split
        · exact ⟨by decide, by decide⟩
        · exact per_bound _ _ _ h ⟨by decide, by decide⟩
def Led (l : List SProfile) (b : Option SLead) : Prop := ∀ x, b = some x → (∃ p ∈ l, p.ID = x.id) ∧ 0 ≤ x.limit ∧ x.limit ≤ 1048576
theorem led_foldl (L : List SProfile) (hl : ∀ p ∈ L, LOk p) (pu start t : Int) : ∀ (l : List SProfile) (b : Option SLead), (∀ p ∈ l, p ∈ L) → Led L b → Led L (l.foldl (stp pu start t) b)
  | [], b, _, h => h
  | p :: l, b, hm, h => by
    rw [List.foldl_cons]
    refine led_foldl L hl pu start t l _ (fun q hq => hm q (List.mem_cons_of_mem _ hq)) ?_
    unfold stp
    cases (decide (p.Purpose = pu) && (lim p start t).2 && better b p) with
    | false => exact h
    | true =>
      intro x hx
      cases hx
      have hp := hm p (List.mem_cons_self ..)
      exact ⟨⟨p, hp, rfl⟩, lim_bound p (hl p hp) start t⟩
theorem led_ld (L : List SProfile) (hl : ∀ p ∈ L, LOk p) (pu start t : Int) : Led L (ld L pu start t) :=
  led_foldl L hl pu start t L none (fun _ h => h) (fun x h => by cases h)
theorem led_dec (L : List SProfile) (hl : ∀ p ∈ L, LOk p) (start t : Int) : Led L (dec L start t) := by
  unfold dec ses
  cases ((ld L 1 start t).isSome && (!(bif (ld L 3 start t).isSome then ld L 3 start t else ld L 2 start t).isSome || decide (oV (ld L 1 start t) ≤ oV (bif (ld L 3 start t).isSome then ld L 3 start t else ld L 2 start t)))) with
  | true => exact led_ld L hl 1 start t
  | false =>
    cases (ld L 3 start t).isSome with
    | true => exact led_ld L hl 3 start t
    | false => exact led_ld L hl 2 start t
theorem G_bound (L : List SProfile) (hl : ∀ p ∈ L, LOk p) (start t : Int) : 0 ≤ G L start t ∧ G L start t ≤ 1073741824 := by
  have h := led_dec L hl start t
  unfold G lmt
  cases hd : dec L start t with
  | none => exact ⟨by decide, by decide⟩
  | some x =>
    have := (h x hd).2
    simp only [Option.isSome_some, cond_true, oV]
    omega

/-! ### Sums and areas -/
def sm (g : Int → Int) : Nat → Int → Int
  | 0, _ => 0
  | n + 1, t => g t + sm g n (t + 1)
def area (e : Int) : List SStep → Int → Int → Int
  | [], t, x => x * (e - t)
  | s :: l, t, x => x * (s.At - t) + area e l s.At s.Value
theorem area_R (g : Int → Int) : ∀ (n : Nat) (t t0 x : Int), area (t + n) (R g n t (some x)) t0 x = x * (t - t0) + sm g n t
  | 0, t, t0, x => by simp [R, area, sm]
  | n + 1, t, t0, x => by
    have e1 : t + ((n + 1 : Nat) : Int) = t + 1 + (n : Int) := by omega
    rw [R, e1]
    by_cases h : some x = some (g t)
    · rw [if_pos h, area_R g n (t + 1) t0 x, sm]
      have := Option.some.inj h
      rw [← this, show t + 1 - t0 = (t - t0) + 1 by omega, Int.mul_add]
      omega
    · rw [if_neg h, area, area_R g n (t + 1) t (g t), sm]
      simp only
      rw [show t + 1 - t = 1 by omega]
      omega
theorem sm_bound (g : Int → Int) (h : ∀ u, 0 ≤ g u ∧ g u ≤ 1073741824) : ∀ (n : Nat) (t : Int), 0 ≤ sm g n t ∧ sm g n t ≤ 1073741824 * n
  | 0, t => ⟨by simp [sm], by simp [sm]⟩
  | n + 1, t => by
    have := sm_bound g h n (t + 1)
    have := h t
    rw [sm]; omega
/-- Steps from t on, before e. -/
def Asc (e : Int) : Int → List SStep → Prop
  | _, [] => True
  | t, s :: l => t ≤ s.At ∧ s.At < e ∧ 0 ≤ s.Value ∧ s.Value ≤ 1073741824 ∧ Asc e (s.At + 1) l
theorem Asc.less {e : Int} : ∀ {l : List SStep} {t u : Int}, Asc e t l → u ≤ t → Asc e u l
  | [], _, _, _, _ => trivial
  | s :: l, t, u, h, hu => ⟨by have := h.1; omega, h.2⟩
theorem asc_R (g : Int → Int) (h : ∀ u, 0 ≤ g u ∧ g u ≤ 1073741824) : ∀ (n : Nat) (t : Int) (v : Option Int), Asc (t + n) t (R g n t v)
  | 0, t, v => trivial
  | n + 1, t, v => by
    have e1 : t + ((n + 1 : Nat) : Int) = t + 1 + (n : Int) := by omega
    rw [R, e1]
    split
    · exact (asc_R g h n (t + 1) v).less (by omega)
    · exact ⟨Int.le_refl _, by show t < t + 1 + (n : Int); omega, (h t).1, (h t).2, asc_R g h n (t + 1) _⟩
theorem asc_at {e : Int} : ∀ (l : List SStep) (t : Int), Asc e t l → ∀ i (hi : i < l.length), t ≤ l[i].At ∧ l[i].At < e ∧ 0 ≤ l[i].Value ∧ l[i].Value ≤ 1073741824 ∧ (∀ h : i + 1 < l.length, l[i].At < l[i + 1].At)
  | [], _, _, i, hi => absurd hi (by simp)
  | s :: l, t, h, i, hi => by
    cases i with
    | zero =>
      refine ⟨h.1, h.2.1, h.2.2.1, h.2.2.2.1, fun hn => ?_⟩
      have := (asc_at l _ h.2.2.2.2 0 (by simpa using hn)).1
      show s.At < (l[0]'(by simpa using hn)).At
      omega
    | succ i =>
      obtain ⟨h1, h2, h3, h4, h5⟩ := asc_at l _ h.2.2.2.2 i (by simpa using hi)
      have := h.1
      exact ⟨by show t ≤ (l[i]'(by simpa using hi)).At; omega, h2, h3, h4, fun hn => h5 (by simpa using hn)⟩

/-! ### The series is valid -/
theorem sv_l (L : List SStep) (e : Int) (ha : Asc e 0 L) (he : e ≤ 268435457) (hl : L.length ≤ 512) : ∀ (n i : Nat), i ≤ L.length → L.length < n + i → series_Valid_l28 300000060 L n (i : Int) = some 0
  | 0, i, h1, h2 => by omega
  | n + 1, i, h1, h2 => by
    simp only [series_Valid_l28, series_Valid_b28, series_Valid_p30]
    by_cases hi : i < L.length
    · obtain ⟨a1, a2, a3, a4, a5⟩ := asc_at L 0 ha i hi
      rw [decide_eq_true (show (i : Int) < (L.length : Int) by omega), cond_true, guard_pos (by omega), getD_nat L _ i hi, wsucc i (by omega), sv_l L e ha he hl n (i + 1) (by omega) (by omega)]
      unfold series_isTime series_isValue
      rw [decide_eq_true a1, decide_eq_true (show L[i].At ≤ 268435456 by omega), decide_eq_true (show (-1099511627776) ≤ L[i].Value by omega), decide_eq_true (show L[i].Value ≤ 1099511627776 by omega)]
      simp only [cond_true, Option.bind_some, Bool.not_true, cond_false]
      by_cases h0 : i = 0
      · rw [decide_eq_false (show ¬ (0 : Int) < (i : Int) by omega), cond_false]
      · have hw : IntKind.wrap .i64 ((i : Int) - 1) = ((i - 1 : Nat) : Int) := by rw [Go.IntWalk.i64_in _ (by omega)]; omega
        have h7 := (asc_at L 0 ha (i - 1) (by omega)).2.2.2.2 (by omega)
        simp only [show i - 1 + 1 = i by omega] at h7
        rw [decide_eq_true (show (0 : Int) < (i : Int) by omega), cond_true, hw, guard_pos (by omega), getD_nat L _ (i - 1) (by omega), decide_eq_false (by omega), cond_false]
    · rw [decide_eq_false (show ¬ (i : Int) < (L.length : Int) by omega), cond_false]; rfl
theorem sv_eq (L : List SStep) (e : Int) (ha : Asc e 0 L) (he : e ≤ 268435457) (hl : L.length ≤ 512) : series_Valid 300000060 L = some 0 := by
  unfold series_Valid
  rw [decide_eq_false (by omega), cond_false]
  exact sv_l L e ha he hl 300000060 0 (by omega) (by omega)

/-! ### Energy -/
theorem iAnd_mod (m : Int) (h : 0 ≤ m ∧ m < 9223372036854775808) : iAnd .i64 m 1048575 = m % 1048576 := by
  unfold iAnd
  have e1 : (BitVec.ofInt (IntKind.bits .i64) m).toNat = m.toNat := by
    show (BitVec.ofInt 64 m).toNat = m.toNat
    rw [BitVec.toNat_ofInt]
    congr 1
    rw [Int.emod_eq_of_lt h.1]
    have : ((2 ^ 64 : Nat) : Int) = 18446744073709551616 := by decide
    omega
  have e2 : (BitVec.ofInt (IntKind.bits .i64) (1048575 : Int)).toNat = 2 ^ 20 - 1 := by decide
  rw [BitVec.toNat_and, e1, e2, Nat.and_two_pow_sub_one_eq_mod]
  have : ((m.toNat % 2 ^ 20 : Nat) : Int) = m % 1048576 := by omega
  rw [this, Go.IntWalk.i64_in _ (by omega)]
theorem shr_20 (m : Int) : m / 2 ^ min (20 : Int).toNat (IntKind.bits .i64) = m / 1048576 := by rfl

theorem en_l (L : List SStep) (s : SSpan) (hf : 0 ≤ s.From) (hto : s.To ≤ 268435456) (ha : Asc s.To s.From L) (hl : L.length ≤ 512) (h300 : s.To - s.From ≤ 300) : ∀ (n i : Nat) (hi lo : Int), i < L.length → L.length < n + i →
    0 ≤ hi → hi ≤ 1024 * ((L.getD i dSStep).At - s.From) → 0 ≤ lo → lo ≤ 1048576 * ((L.getD i dSStep).At - s.From) →
    ∃ hi' lo', series_Energy_l35 L s n hi lo (i : Int) = series_Energy_p11 hi' lo' ∧ 0 ≤ hi' ∧ hi' ≤ 1024 * (s.To - s.From) ∧ 0 ≤ lo' ∧ lo' ≤ 1048576 * (s.To - s.From) ∧
      hi' * 1048576 + lo' = hi * 1048576 + lo + area s.To (L.drop (i + 1)) (L.getD i dSStep).At (L.getD i dSStep).Value
  | 0, i, hi, lo, h1, h2, _, _, _, _ => by omega
  | n + 1, i, hi, lo, h1, h2, b1, b2, b3, b4 => by
    obtain ⟨a1, a2, a3, a4, a5⟩ := asc_at L _ ha i h1
    have hg : L.getD i dSStep = L[i] := by simp [List.getD_eq_getElem?_getD, List.getElem?_eq_getElem h1]
    rw [hg] at b2 b4 ⊢
    simp only [series_Energy_l35, series_Energy_b35]
    rw [decide_eq_true (show (i : Int) < (L.length : Int) by omega), cond_true, guard_pos (by omega), wsucc i (by omega)]
    -- one stretch
    have h43 : ∀ to : Int, L[i].At < to → to ≤ s.To → ∀ kl : Int → Int → Int → Option (Int × Int), series_Energy_p43 L s hi lo (i : Int) kl to =
        kl (hi + L[i].Value / 1048576 * (to - L[i].At)) (lo + L[i].Value % 1048576 * (to - L[i].At)) ((i + 1 : Nat) : Int) ∧
        0 ≤ hi + L[i].Value / 1048576 * (to - L[i].At) ∧ hi + L[i].Value / 1048576 * (to - L[i].At) ≤ 1024 * (to - s.From) ∧
        0 ≤ lo + L[i].Value % 1048576 * (to - L[i].At) ∧ lo + L[i].Value % 1048576 * (to - L[i].At) ≤ 1048576 * (to - s.From) ∧
        (hi + L[i].Value / 1048576 * (to - L[i].At)) * 1048576 + (lo + L[i].Value % 1048576 * (to - L[i].At)) = hi * 1048576 + lo + L[i].Value * (to - L[i].At) := by
      intro to k1 k2 kl
      have c1 : 0 ≤ L[i].Value / 1048576 ∧ L[i].Value / 1048576 ≤ 1024 := by omega
      have c2 : 0 ≤ L[i].Value % 1048576 ∧ L[i].Value % 1048576 ≤ 1048576 := by omega
      have c3 : 0 ≤ L[i].Value / 1048576 * (to - L[i].At) := Int.mul_nonneg c1.1 (by omega)
      have c4 : L[i].Value / 1048576 * (to - L[i].At) ≤ 1024 * (to - L[i].At) := Int.mul_le_mul_of_nonneg_right c1.2 (by omega)
      have c5 : 0 ≤ L[i].Value % 1048576 * (to - L[i].At) := Int.mul_nonneg c2.1 (by omega)
      have c6 : L[i].Value % 1048576 * (to - L[i].At) ≤ 1048576 * (to - L[i].At) := Int.mul_le_mul_of_nonneg_right c2.2 (by omega)
      have c7 : L[i].Value * (to - L[i].At) = L[i].Value / 1048576 * (to - L[i].At) * 1048576 + L[i].Value % 1048576 * (to - L[i].At) := by
        have h : L[i].Value = 1048576 * (L[i].Value / 1048576) + L[i].Value % 1048576 := (Int.mul_ediv_add_emod L[i].Value 1048576).symm
        have h2 : (1048576 * (L[i].Value / 1048576) + L[i].Value % 1048576) * (to - L[i].At) = L[i].Value / 1048576 * (to - L[i].At) * 1048576 + L[i].Value % 1048576 * (to - L[i].At) := by
          rw [Int.add_mul, Int.mul_assoc, Int.mul_comm 1048576]
        rw [← h2, ← h]
      refine ⟨?_, by omega, by omega, by omega, by omega, by omega⟩
      unfold series_Energy_p43 series_Energy_p39
      rw [getD_nat L _ i h1, if_neg (show ¬ L[i].At < s.From by omega), decide_eq_false (by omega), cond_false, iAnd_mod _ (by omega), shr_20, wsucc i (by omega)]
      rw [Go.IntWalk.i64_in (to - L[i].At) (by omega), Go.IntWalk.i64_in (L[i].Value / 1048576 * (to - L[i].At)) (by omega), Go.IntWalk.i64_in (L[i].Value % 1048576 * (to - L[i].At)) (by omega), Go.IntWalk.i64_in (hi + L[i].Value / 1048576 * (to - L[i].At)) (by omega), Go.IntWalk.i64_in (lo + L[i].Value % 1048576 * (to - L[i].At)) (by omega)]
    by_cases hn : i + 1 < L.length
    · have a6 := a5 hn
      obtain ⟨d1, d2, _⟩ := asc_at L _ ha (i + 1) hn
      rw [decide_eq_true (show ((i + 1 : Nat) : Int) < (L.length : Int) by omega), cond_true, guard_pos (by omega), getD_nat L _ (i + 1) hn, if_pos d2]
      obtain ⟨k1, k2, k3, k4, k5, k6⟩ := h43 L[i + 1].At a6 (by omega) (fun high_22 low_23 t23_24 => series_Energy_l35 L s n high_22 low_23 t23_24)
      have hg' : L.getD (i + 1) dSStep = L[i + 1] := by simp [List.getD_eq_getElem?_getD, List.getElem?_eq_getElem hn]
      obtain ⟨hi', lo', q1, q2, q3, q4, q5, q6⟩ := en_l L s hf hto ha hl h300 n (i + 1) _ _ hn (by omega) k2 (by rw [hg']; exact k3) k4 (by rw [hg']; exact k5)
      refine ⟨hi', lo', by rw [k1]; exact q1, q2, q3, q4, q5, ?_⟩
      rw [q6, k6, hg', List.drop_eq_getElem_cons hn, area]
      omega
    · rw [decide_eq_false (show ¬ ((i + 1 : Nat) : Int) < (L.length : Int) by omega), cond_false]
      obtain ⟨k1, k2, k3, k4, k5, k6⟩ := h43 s.To a2 (Int.le_refl _) (fun high_22 low_23 t23_24 => series_Energy_l35 L s n high_22 low_23 t23_24)
      refine ⟨_, _, ?_, k2, k3, k4, k5, ?_⟩
      · rw [k1]
        cases n with
        | zero => omega
        | succ n =>
          simp only [series_Energy_l35, series_Energy_b35]
          rw [decide_eq_false (show ¬ ((i + 1 : Nat) : Int) < (L.length : Int) by omega), cond_false]
      · rw [k6, List.drop_eq_nil_of_le (by omega), area]
theorem p11_eqE (hi lo : Int) (h1 : 0 ≤ hi) (h2 : hi ≤ 307200) (h3 : 0 ≤ lo) (h4 : lo ≤ 314572800) : series_Energy_p11 hi lo = some (hi * 1048576 + lo, 0) := by
  unfold series_Energy_p11
  rw [shr_20, Go.IntWalk.i64_in (hi + lo / 1048576) (by omega), decide_eq_false (by omega), cond_false, decide_eq_false (by omega), cond_false, iAnd_mod _ (by omega)]
  rw [show (2 : Int) ^ min (20 : Int).toNat (IntKind.bits .i64) = 1048576 by decide, Go.IntWalk.i64_in ((hi + lo / 1048576) * 1048576) (by omega), Go.IntWalk.i64_in _ (by omega)]
  rw [show (hi + lo / 1048576) * 1048576 + lo % 1048576 = hi * 1048576 + lo by omega]
theorem energy_eq (g : Int → Int) (hg : ∀ u, 0 ≤ g u ∧ g u ≤ 1073741824) (t : Int) (m : Nat) (ht : 0 ≤ t ∧ t ≤ 1000000) (hm : m ≤ 300) : series_Energy 300000060 (R g m t none) (SSpan.mk t (t + m)) = some (sm g m t, 0) := by
  have hlen : (R g m t none).length ≤ m := R_len g m t none
  have hasc : Asc (t + m) t (R g m t none) := asc_R g hg m t none
  unfold series_Energy
  rw [sv_eq _ (t + m) (hasc.less ht.1) (by omega) (by omega), Option.bind_some]
  unfold series_isSpan
  rw [show (!decide ((0 : Int) = 0)) = false from rfl, cond_false, decide_eq_true ht.1, cond_true, decide_eq_true (show t ≤ t + (m : Int) by omega), cond_true, decide_eq_true (show t + (m : Int) ≤ 268435456 by omega), Option.bind_some, Bool.not_true, cond_false]
  cases m with
  | zero => rfl
  | succ m =>
    have hR : R g (m + 1) t none = SStep.mk t (g t) :: R g m (t + 1) (some (g t)) := by rw [R, if_neg (by simp)]
    have hlen' : 0 < (R g (m + 1) t none).length := by rw [hR]; simp
    have h0 : (R g (m + 1) t none).getD 0 dSStep = SStep.mk t (g t) := by rw [hR]; rfl
    obtain ⟨hi', lo', q1, q2, q3, q4, q5, q6⟩ := en_l (R g (m + 1) t none) (SSpan.mk t (t + ((m + 1 : Nat) : Int))) ht.1 (by show t + ((m + 1 : Nat) : Int) ≤ 268435456; omega) hasc (by omega) (by show t + ((m + 1 : Nat) : Int) - t ≤ 300; omega) 300000060 0 0 0 hlen' (by omega) (Int.le_refl _) (by rw [h0]; simp) (Int.le_refl _) (by rw [h0]; simp)
    simp only at q3 q5
    have q1' : series_Energy_l35 (R g (m + 1) t none) (SSpan.mk t (t + ((m + 1 : Nat) : Int))) 300000060 0 0 0 = series_Energy_p11 hi' lo' := by simpa only [Int.natCast_zero] using q1
    rw [q1', p11_eqE hi' lo' q2 (by omega) q4 (by omega), q6, h0, hR]
    have := area_R g m (t + 1) t (g t)
    rw [show t + 1 + (m : Int) = t + ((m + 1 : Nat) : Int) by omega] at this
    simp only [List.drop_succ_cons, List.drop_zero]
    rw [this, sm, show t + 1 - t = 1 by omega]
    simp

/-! ### The program's loops -/
structure Inv (l : List SProfile) (j : Nat) : Prop where
  len : l.length ≤ j
  ok : ∀ p ∈ l, VOk p ∧ LOk p
  ids : l.Pairwise fun a b => a.ID ≠ b.ID
theorem Inv.small {l : List SProfile} {j : Nat} (h : Inv l j) : l.all small = true := by
  rw [List.all_eq_true]
  intro p hp
  have := (h.ok p hp).1.len.2
  simp [M.small]; omega
theorem put_inv (l : List SProfile) (j : Nat) (hj : j < 8) (p : SProfile) (hv : profile_Valid 300000060 p = some 0) (hp : VOk p ∧ LOk p) (h : Inv l j) : ∃ l', profile_Put 300000060 l p = some (l', 0) ∧ Inv l' (j + 1) := by
  have hl := h.len
  have hf := List.length_filter_le (keepB p) l
  refine ⟨l.filter (keepB p) ++ [p], ?_, ⟨by simp; omega, fun q hq => ?_, ?_⟩⟩
  · unfold profile_Put
    rw [hv, Option.bind_some, show (!decide ((0 : Int) = 0)) = false from rfl, cond_false]
    have := put_l l p (by omega) h.small (by have := hp.1.len.2; omega) 300000060 0 [] (by omega) (by omega) (by simp)
    simp only [Int.natCast_zero, List.drop_zero, List.nil_append] at this
    rw [this]
    unfold putEnd
    rw [decide_eq_false (by omega), cond_false]
  · rcases List.mem_append.1 hq with hq | hq
    · exact h.ok q (List.mem_filter.1 hq).1
    · rw [List.mem_singleton.1 hq]; exact hp
  · rw [List.pairwise_append]
    refine ⟨h.ids.sublist List.filter_sublist, by simp, fun a ha b hb => ?_⟩
    rw [List.mem_singleton.1 hb]
    have hk := (List.mem_filter.1 ha).2
    unfold keepB at hk
    simp only [Bool.and_eq_true, Bool.not_eq_true', decide_eq_false_iff_not] at hk
    exact hk.1
theorem clear_len (id : Int) : ∀ (l : List SProfile), (l.Pairwise fun a b => a.ID ≠ b.ID) → (∃ p ∈ l, p.ID = id) → (l.filter fun p => !decide (p.ID = id)).length + 1 = l.length
  | [], _, ⟨p, hp, _⟩ => absurd hp (by simp)
  | q :: l, hpw, ⟨p, hp, hid⟩ => by
    obtain ⟨h1, h2⟩ := List.pairwise_cons.1 hpw
    rw [List.filter_cons]
    by_cases hq : q.ID = id
    · rw [if_neg (by simp [hq]), List.filter_eq_self.2 (fun r hr => by
        have := h1 r hr
        simp; intro h; exact this (by rw [hq, h])), List.length_cons]
    · rw [if_pos (by simp [hq]), List.length_cons, List.length_cons]
      have := clear_len id l h2 ⟨p, (List.mem_cons.1 hp).resolve_left (fun h => hq (by rw [← h]; exact hid)), hid⟩
      omega
theorem none_at (conn : Int) (txn : ByteArray) (start t : Int) (hs : -9223372036854775808 ≤ start ∧ start ≤ 9223372036854775807) (ht : -9223372036854775808 ≤ t ∧ t ≤ 9223372036854775807) : compose_At 300000060 [] conn txn start t = some 1073741824 := by
  rw [at_c [] (by simp) (fun p hp => absurd hp (by simp)) conn txn start t hs ht]
  rfl

theorem p32_eqT : chargenettop_ProfilesCompose_p32 300000060 = some true := by
  unfold chargenettop_ProfilesCompose_p32
  rw [none_at 1 ByteArray.empty 5 9 (by omega) (by omega)]
  rfl

theorem why_l (x : SComposed) (clear : Int) (l rest : List SProfile) (e : Int) (id : Int) (hx : (l.getD (Int.tmod (IntKind.wrap .i64 clear) ((l.length : Int))).toNat dSProfile).ID = id) (hr : ∀ p ∈ rest, VOk p ∧ LOk p) (hlen : rest.length ≤ 100) (hid : ∀ p ∈ rest, p.ID ≠ id)
    (hT : 0 ≤ x.T ∧ x.T ≤ 1000000) (hL : 0 ≤ x.Length ∧ x.Length ≤ 300) (hS : 0 ≤ x.Start ∧ x.Start ≤ 1000000) : ∀ (n : Nat) (t : Int), x.T ≤ t → t ≤ x.T + x.Length → x.T + x.Length - t < n → chargenettop_ProfilesCompose_l46 300000060 x clear l (rest, e) n t = some true
  | 0, t, h1, h2, h3 => by omega
  | n + 1, t, h1, h2, h3 => by
    simp only [chargenettop_ProfilesCompose_l46, chargenettop_ProfilesCompose_b46, chargenettop_ProfilesCompose_p48]
    rw [Go.IntWalk.i64_in (x.T + x.Length) (by omega)]
    by_cases ht : t < x.T + x.Length
    · have hfl := List.length_filter_le (cdB x.Conn x.Txn) rest
      have hfm : ∀ p ∈ rest.filter (cdB x.Conn x.Txn), VOk p ∧ LOk p := fun p hp => hr p (List.mem_filter.1 hp).1
      have hled := led_dec (rest.filter (cdB x.Conn x.Txn)) (fun p hp => (hfm p hp).2) x.Start t
      have hw : compose_Why 300000060 rest x.Conn x.Txn x.Start t = some (oI (dec (rest.filter (cdB x.Conn x.Txn)) x.Start t), (dec (rest.filter (cdB x.Conn x.Txn)) x.Start t).isSome) := by
        unfold compose_Why
        rw [cands_eq rest hlen, Option.bind_some, determining_eq _ (by omega) (fun p hp => (hfm p hp).1) x.Start t (by omega) (by omega), Option.bind_some]
      rw [decide_eq_true ht, cond_true, hw, Option.bind_some, hx, Go.IntWalk.i64_in (t + 1) (by omega), why_l x clear l rest e id hx hr hlen hid hT hL hS n (t + 1) (by omega) (by omega) (by omega)]
      cases hd : dec (rest.filter (cdB x.Conn x.Txn)) x.Start t with
      | none => rfl
      | some y =>
        obtain ⟨⟨p, hp, hpid⟩, _⟩ := hled y hd
        have := hid p (List.mem_filter.1 hp).1
        have hne : ¬ y.id = id := by rw [← hpid]; exact this
        show (bif decide (y.id = id) then some false else some true) = some true
        rw [decide_eq_false hne, cond_false]
    · rw [decide_eq_false ht, cond_false]
      exact p32_eqT

theorem p53_eq (x : SComposed) (clear : Int) (hc : 0 ≤ clear ∧ clear ≤ 255) (l : List SProfile) (h : Inv l 8) (s : Int) (hT : 0 ≤ x.T ∧ x.T ≤ 1000000) (hL : 0 ≤ x.Length ∧ x.Length ≤ 300) (hS : 0 ≤ x.Start ∧ x.Start ≤ 1000000) :
    chargenettop_ProfilesCompose_p53 300000060 x clear l (s, 0) s = some true := by
  unfold chargenettop_ProfilesCompose_p53
  simp only [decide_true, Bool.not_true, cond_false, cond_true]
  have hl8 := h.len
  by_cases h0 : l.length = 0
  · rw [decide_eq_true (by omega), cond_true, none_at 1 ByteArray.empty 5 9 (by omega) (by omega)]
    rfl
  · have hw : IntKind.wrap .i64 clear = clear := Go.IntWalk.i64_in _ (by omega)
    rw [decide_eq_false (by omega), cond_false, guard_pos (by omega)]
    have hm : Int.tmod (IntKind.wrap .i64 clear) (l.length : Int) = clear % (l.length : Int) := by rw [hw, Int.tmod_eq_emod_of_nonneg hc.1]
    have hm1 : 0 ≤ clear % (l.length : Int) := Int.emod_nonneg _ (by omega)
    have hm2 : clear % (l.length : Int) < (l.length : Int) := Int.emod_lt_of_pos _ (by omega)
    rw [guard_pos (by rw [hm]; exact ⟨hm1, hm2⟩)]
    obtain ⟨k, hk⟩ : ∃ k : Nat, clear % (l.length : Int) = (k : Int) := ⟨(clear % (l.length : Int)).toNat, by omega⟩
    have hkl : k < l.length := by omega
    have hgk : l.getD (Int.tmod (IntKind.wrap .i64 clear) ((l.length : Int))).toNat dSProfile = l[k] := by rw [hm, hk]; exact getD_nat l _ k hkl
    have hlen := clear_len l[k].ID l h.ids ⟨l[k], List.getElem_mem hkl, rfl⟩
    rw [hgk, clear_eq l l[k].ID (by omega) h.small]
    unfold profile_Clear_p3
    rw [decide_eq_false (by omega), cond_false, Option.bind_some]
    simp only [decide_true, Bool.not_true, cond_false]
    rw [Go.IntWalk.i64_in ((l.length : Int) - 1) (by omega), decide_eq_true (by omega), Bool.not_true, cond_false]
    refine why_l x clear l _ 0 l[k].ID (by rw [hgk]) (fun p hp => h.ok p (List.mem_filter.1 hp).1) (by omega) (fun p hp => ?_) hT hL hS 300000060 x.T (by omega) (by omega) (by omega)
    have := (List.mem_filter.1 hp).2
    simpa using this

theorem sum_l (x : SComposed) (clear : Int) (hc : 0 ≤ clear ∧ clear ≤ 255) (l : List SProfile) (h : Inv l 8) (s : Int) (hT : 0 ≤ x.T ∧ x.T ≤ 1000000) (hL : 0 ≤ x.Length ∧ x.Length ≤ 300) (hS : 0 ≤ x.Start ∧ x.Start ≤ 1000000) : ∀ (m n : Nat) (t sum : Int), t + m = x.T + x.Length → x.T ≤ t → m < n → 0 ≤ sum → sum ≤ 1073741824 * (t - x.T) → sum + sm (G (l.filter (cdB x.Conn x.Txn)) x.Start) m t = s →
    chargenettop_ProfilesCompose_l62 300000060 x clear l (s, 0) n sum t = some true
  | m, 0, t, sum, h1, h2, h3, _, _, _ => by omega
  | 0, n + 1, t, sum, h1, h2, h3, h4, h5, h6 => by
    simp only [chargenettop_ProfilesCompose_l62, chargenettop_ProfilesCompose_b62]
    rw [Go.IntWalk.i64_in (x.T + x.Length) (by omega), decide_eq_false (by omega), cond_false]
    rw [sm, Int.add_zero] at h6
    subst h6
    exact p53_eq x clear hc l h sum hT hL hS
  | m + 1, n + 1, t, sum, h1, h2, h3, h4, h5, h6 => by
    have hl8 := h.len
    have hgb := G_bound (l.filter (cdB x.Conn x.Txn)) (fun p hp => (h.ok p (List.mem_filter.1 hp).1).2) x.Start t
    simp only [chargenettop_ProfilesCompose_l62, chargenettop_ProfilesCompose_b62]
    rw [Go.IntWalk.i64_in (x.T + x.Length) (by omega), decide_eq_true (show t < x.T + x.Length by omega), cond_true, at_c l (by omega) (fun p hp => (h.ok p hp).1) x.Conn x.Txn x.Start t (by omega) (by omega), Option.bind_some]
    show chargenettop_ProfilesCompose_l62 300000060 x clear l (s, 0) n (IntKind.wrap .i64 (sum + G (l.filter (cdB x.Conn x.Txn)) x.Start t)) (IntKind.wrap .i64 (t + 1)) = some true
    rw [Go.IntWalk.i64_in (sum + _) (by omega), Go.IntWalk.i64_in (t + 1) (by omega)]
    refine sum_l x clear hc l h s hT hL hS m n (t + 1) _ (by omega) (by omega) (by omega) (by omega) (by omega) ?_
    rw [← h6, sm]; omega

theorem p66_eq (x : SComposed) (clear : Int) (hc : 0 ≤ clear ∧ clear ≤ 255) (l : List SProfile) (h : Inv l 8) (hT : 0 ≤ x.T ∧ x.T ≤ 1000000) (hL : 0 ≤ x.Length ∧ x.Length ≤ 300) (hS : 0 ≤ x.Start ∧ x.Start ≤ 1000000) :
    chargenettop_ProfilesCompose_p66 300000060 x clear l = some true := by
  have hl8 := h.len
  have hfl := List.length_filter_le (cdB x.Conn x.Txn) l
  have hfm : ∀ p ∈ l.filter (cdB x.Conn x.Txn), VOk p ∧ LOk p := fun p hp => h.ok p (List.mem_filter.1 hp).1
  obtain ⟨m, hm⟩ : ∃ m : Nat, x.Length = (m : Int) := ⟨x.Length.toNat, by omega⟩
  have hg : ∀ u, 0 ≤ G (l.filter (cdB x.Conn x.Txn)) x.Start u ∧ G (l.filter (cdB x.Conn x.Txn)) x.Start u ≤ 1073741824 := G_bound _ (fun p hp => (hfm p hp).2) x.Start
  have hser : compose_Series 300000060 l x.Conn x.Txn x.Start (SSpan.mk x.T (x.T + m)) = some (R (G (l.filter (cdB x.Conn x.Txn)) x.Start) m x.T none, 0) := by
    unfold compose_Series
    simp only
    rw [decide_eq_false (show ¬ x.T < 0 by omega), cond_false, decide_eq_false (show ¬ x.T + (m : Int) < x.T by omega), cond_false, decide_eq_false (show ¬ 268435456 < x.T + (m : Int) by omega), cond_false, Go.IntWalk.i64_in (x.T + (m : Int) - x.T) (by omega), decide_eq_false (show ¬ 20160 < x.T + (m : Int) - x.T by omega), cond_false, cands_eq l (by omega), Option.bind_some]
    cases m with
    | zero => exact series_0 _ x.Start _ x.T hT.1 (by simp) 300000059
    | succ m =>
      rw [series_c _ (by omega) (fun p hp => (hfm p hp).1) x.Start (SSpan.mk x.T (x.T + ((m + 1 : Nat) : Int))) (by omega) (by show x.T + ((m + 1 : Nat) : Int) ≤ 268435456; omega) 300000060 m x.T [] hT.1 (by show x.T + ((m + 1 : Nat) : Int) = x.T + (m : Int) + 1; omega) (by omega) (by simp), List.nil_append]
      have hR : R (G (l.filter (cdB x.Conn x.Txn)) x.Start) (m + 1) x.T none = SStep.mk x.T (G (l.filter (cdB x.Conn x.Txn)) x.Start x.T) :: R (G (l.filter (cdB x.Conn x.Txn)) x.Start) m (x.T + 1) (some (G (l.filter (cdB x.Conn x.Txn)) x.Start x.T)) := by rw [R, if_neg (by simp)]
      rw [← hR]
      have := R_len (G (l.filter (cdB x.Conn x.Txn)) x.Start) (m + 1) x.T none
      unfold fin
      rw [if_neg (by omega)]
  unfold chargenettop_ProfilesCompose_p66
  rw [Go.IntWalk.i64_in (x.T + x.Length) (by omega), hm, hser, Option.bind_some]
  simp only [decide_true, Bool.not_true, cond_false]
  rw [energy_eq _ hg x.T m hT (by omega), Option.bind_some]
  simp only [decide_true, Bool.not_true, cond_false]
  exact sum_l x clear hc l h _ hT hL hS m 300000060 x.T 0 (by omega) (by omega) (by omega) (by omega) (by omega) (by omega)

theorem l137_eq (x : SComposed) (hx : x.L.length ≤ 8) (l : List SProfile) (t58 t59 : Int) (kl : List SProfile → Int → Int → Option Bool) (h : chargenettop_ProfilesCompose_p128 300000060 x l t58 t59 kl = some true) (S : List SProfile) (hS : subL x.L 0 (t59 : Int).toNat = S) (hSl : S.length ≤ 8) : ∀ (n i : Nat), i ≤ S.length → S.length < n + i →
    chargenettop_ProfilesCompose_l137 300000060 x l t58 t59 kl n (i : Int) = some true
  | 0, i, h1, h2 => by omega
  | n + 1, i, h1, h2 => by
    simp only [chargenettop_ProfilesCompose_l137, chargenettop_ProfilesCompose_b137]
    rw [hS]
    by_cases hi : i < S.length
    · rw [decide_eq_true (show (i : Int) < (S.length : Int) by omega), cond_true, guard_pos (by omega), wsucc i (by omega), l137_eq x hx l t58 t59 kl h S hS hSl n (i + 1) (by omega) (by omega)]
      cases decide ((S.getD ((i : Int)).toNat dSProfile).ID = (x.L.getD t59.toNat dSProfile).ID) <;> rfl
    · rw [decide_eq_false (show ¬ (i : Int) < (S.length : Int) by omega), cond_false]
      exact h

theorem main_l (x : SComposed) (clear : Int) (hc : 0 ≤ clear ∧ clear ≤ 255) (hx : x.L.length ≤ 8) (hT : 0 ≤ x.T ∧ x.T ≤ 1000000) (hL : 0 ≤ x.Length ∧ x.Length ≤ 300) (hS : 0 ≤ x.Start ∧ x.Start ≤ 1000000) : ∀ (n j : Nat) (l : List SProfile), j ≤ x.L.length → x.L.length < n + j → Inv l j →
    chargenettop_ProfilesCompose_l117 300000060 x clear n l (x.L.length : Int) (j : Int) = some true
  | 0, j, l, h1, h2, _ => by omega
  | n + 1, j, l, h1, h2, h => by
    simp only [chargenettop_ProfilesCompose_l117, chargenettop_ProfilesCompose_b117]
    by_cases hj : j < x.L.length
    · rw [decide_eq_true (show (j : Int) < (x.L.length : Int) by omega), cond_true, guard_pos (by omega), guard_pos (by omega)]
      have hsl : (subL x.L 0 ((j : Int)).toNat).length ≤ 8 := by
        simp [subL]; omega
      refine l137_eq x hx l _ _ _ ?_ _ rfl hsl 300000060 0 (by omega) (by omega)
      unfold chargenettop_ProfilesCompose_p128 chargenettop_ProfilesCompose_p120
      rw [getD_nat x.L _ j hj, wsucc j (by omega)]
      obtain ⟨v, hv, hok⟩ := valid_any x.L[j]
      rw [hv, Option.bind_some]
      by_cases hv0 : v = 0
      · subst hv0
        rw [show (!decide ((0 : Int) = 0)) = false from rfl, cond_false]
        obtain ⟨l', hp, hi⟩ := put_inv l j (by omega) x.L[j] hv (hok rfl) h
        rw [hp, Option.bind_some]
        simp only [decide_true, Bool.not_true, cond_false]
        exact main_l x clear hc hx hT hL hS n (j + 1) l' (by omega) (by omega) hi
      · rw [show (!decide (v = 0)) = true by simpa using hv0, cond_true]
    · rw [decide_eq_false (show ¬ (j : Int) < (x.L.length : Int) by omega), cond_false]
      exact p66_eq x clear hc l ⟨by have := h.len; omega, h.ok, h.ids⟩ hT hL hS

theorem plain_chargenettop_ProfilesCompose (a0 : SComposed) (a1 : Int) (w0 : okSComposed a0) (w1 : (Lit.int .u8 a1).wf = true) : ∃ F, chargenettop_ProfilesCompose F a0 a1 = some true := by
  have hc : 0 ≤ a1 ∧ a1 ≤ 255 := by
    simp [Lit.wf, IntKind.min, IntKind.max, IntKind.signed, IntKind.bits] at w1
    omega
  refine ⟨300000060, ?_⟩
  unfold chargenettop_ProfilesCompose
  by_cases h1 : 8 < (a0.L.length : Int)
  · rw [decide_eq_true h1]; rfl
  rw [decide_eq_false h1, cond_false]
  by_cases h2 : a0.Length < 0
  · rw [decide_eq_true h2]; rfl
  rw [decide_eq_false h2, cond_false]
  by_cases h3 : 300 < a0.Length
  · rw [decide_eq_true h3]; rfl
  rw [decide_eq_false h3, cond_false]
  by_cases h4 : a0.T < 0
  · rw [decide_eq_true h4]; rfl
  rw [decide_eq_false h4, cond_false]
  by_cases h5 : 1000000 < a0.T
  · rw [decide_eq_true h5]; rfl
  rw [decide_eq_false h5, cond_false]
  by_cases h6 : a0.Start < 0
  · rw [decide_eq_true h6]; rfl
  rw [decide_eq_false h6, cond_false]
  by_cases h7 : 1000000 < a0.Start
  · rw [decide_eq_true h7]; rfl
  rw [decide_eq_false h7, cond_false]
  exact main_l a0 a1 hc (by omega) (by omega) (by omega) (by omega) 300000060 0 [] (by omega) (by omega) ⟨by simp, fun p hp => absurd hp (by simp), List.Pairwise.nil⟩
end Go.Proofs.Ytfbkimhoncfnmaa.M
