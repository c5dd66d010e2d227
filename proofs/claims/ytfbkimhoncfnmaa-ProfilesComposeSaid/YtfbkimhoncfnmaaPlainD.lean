/- Plain laws: the next changes. -/
import Derived.Test.YtfbkimhoncfnmaaPlainC
namespace Go.Proofs.Ytfbkimhoncfnmaa.M
open Go Go.Proofs.Ytfbkimhoncfnmaa.E Go.Proofs.Ytfbkimhoncfnmaa.W
set_option linter.unusedVariables false
set_option linter.unusedSimpArgs false


def chg (p : SProfile) (start u : Int) : Prop := lim p start (u - 1) ≠ lim p start u
instance (p : SProfile) (start u : Int) : Decidable (chg p start u) := inferInstanceAs (Decidable (lim p start (u - 1) ≠ lim p start u))
theorem per_pred : ∀ (l : List SPeriod) (ps n : Int), (∀ d ∈ l, d.At ≠ ps) → per l (ps - 1) n = per l ps n
  | [], ps, n, h => rfl
  | d :: l, ps, n, h => by
    have h1 := h d (List.mem_cons_self ..)
    have h2 : (if d.At ≤ ps - 1 then d.Limit else n) = (if d.At ≤ ps then d.Limit else n) := by
      by_cases h : d.At ≤ ps
      · rw [if_pos h, if_pos (by omega)]
      · rw [if_neg h, if_neg (by omega)]
    simp only [per]
    rw [h2]
    exact per_pred l ps _ (fun d hd => h d (List.mem_cons_of_mem _ hd))
def mark (p : SProfile) (start u : Int) : Prop := org p start ≤ u ∧ ((∃ d ∈ p.Periods, d.At = past p start u) ∨ (p.Duration ≠ -1 ∧ p.Duration = past p start u))
theorem past_self (p : SProfile) (start : Int) : past p start (org p start) = 0 := by unfold past; split <;> simp
theorem zero_mem (p : SProfile) (v : VOk p) : ∃ d ∈ p.Periods, d.At = 0 := ⟨p.Periods[0]'v.len.1, List.getElem_mem _, (v.at0 0 v.len.1).2.2 rfl⟩
theorem past_pred (p : SProfile) (start u : Int) (h : org p start ≤ u - 1) (h0 : past p start u ≠ 0) : past p start (u - 1) = past p start u - 1 := by
  unfold past at *
  rcases cyc_cases p.Kind with ⟨hc, _⟩ | ⟨hc, _⟩ | ⟨hc, _⟩ <;> rw [hc] at h0 ⊢ <;> simp at h0 ⊢ <;> omega
theorem chg_at (p : SProfile) (v : VOk p) (start u : Int) (hc : chg p start u) : u = p.Span_From ∨ (p.Span_To ≠ -1 ∧ u = p.Span_To) ∨ mark p start u := by
  by_cases a1 : u = p.Span_From
  · exact .inl a1
  by_cases a2 : p.Span_To ≠ -1 ∧ u = p.Span_To
  · exact .inr (.inl a2)
  by_cases a3 : mark p start u
  · exact .inr (.inr a3)
  exfalso; apply hc; unfold lim
  by_cases b1 : u < p.Span_From
  · rw [if_pos (show u - 1 < p.Span_From by omega), if_pos b1]
  · rw [if_neg (show ¬ u - 1 < p.Span_From by omega), if_neg b1]
    by_cases b2 : p.Span_To ≠ -1 ∧ p.Span_To ≤ u
    · rw [if_pos b2, if_pos ⟨b2.1, by omega⟩]
    · rw [if_neg b2, if_neg (by omega)]
      by_cases b3 : u < org p start
      · rw [if_pos b3, if_pos (by omega)]
      · have hu : org p start ≤ u := by omega
        have hne : past p start u ≠ 0 := fun h => a3 ⟨hu, .inl (by obtain ⟨d, hd, h0⟩ := zero_mem p v; exact ⟨d, hd, by omega⟩)⟩
        have hne2 : u ≠ org p start := by
          intro h; rw [h] at hne; exact hne (past_self ..)
        rw [if_neg b3, if_neg (by omega), past_pred p start u (by omega) hne]
        have hd : (p.Duration ≠ -1 ∧ p.Duration ≤ past p start u - 1) ↔ (p.Duration ≠ -1 ∧ p.Duration ≤ past p start u) := by
          constructor
          · rintro ⟨h1, h2⟩; exact ⟨h1, by omega⟩
          · rintro ⟨h1, h2⟩; refine ⟨h1, ?_⟩
            have : p.Duration ≠ past p start u := fun h => a3 ⟨hu, .inr ⟨h1, h⟩⟩
            omega
        rw [per_pred p.Periods _ 0 (fun d hd h => a3 ⟨hu, .inl ⟨d, hd, h⟩⟩)]
        by_cases hd2 : p.Duration ≠ -1 ∧ p.Duration ≤ past p start u
        · rw [if_pos (hd.2 hd2), if_pos hd2]
        · rw [if_neg (fun h => hd2 (hd.1 h)), if_neg hd2]
def IsNext (p : SProfile) (start t r : Int) : Prop :=
  (r = -1 ∧ ∀ u, t < u → u ≤ 268435456 → ¬ chg p start u) ∨ (t < r ∧ r ≤ 268435456 ∧ chg p start r ∧ ∀ u, t < u → u < r → ¬ chg p start u)
theorem isNext_unique (p : SProfile) (start t r r' : Int) (h1 : IsNext p start t r) (h2 : IsNext p start t r') : r = r' := by
  rcases h1 with ⟨rfl, h1⟩ | ⟨a, b, c, d⟩ <;> rcases h2 with ⟨rfl, h2⟩ | ⟨a', b', c', d'⟩
  · rfl
  · exact absurd c' (h1 _ a' b')
  · exact absurd c (h2 _ a b)
  · rcases Int.lt_trichotomy r r' with h | h | h
    · exact absurd c (d' _ a h)
    · exact h
    · exact absurd c' (d _ a' h)
theorem least_chg (p : SProfile) (start t : Int) : ∀ (n : Nat) (u : Int), t < u → u ≤ t + n → chg p start u → ∃ w, t < w ∧ w ≤ u ∧ chg p start w ∧ ∀ x, t < x → x < w → ¬ chg p start x
  | 0, u, h1, h2, _ => by omega
  | n + 1, u, h1, h2, hc => by
    by_cases h : ∃ x, t < x ∧ x < u ∧ chg p start x
    · obtain ⟨x, a, b, c⟩ := h
      obtain ⟨w, w1, w2, w3, w4⟩ := least_chg p start t n x a (by omega) c
      exact ⟨w, w1, by omega, w3, w4⟩
    · exact ⟨u, h1, Int.le_refl _, hc, fun x a b c => h ⟨x, a, b, c⟩⟩
def Full (p : SProfile) (start t : Int) (L : List Int) : Prop := ∀ u, t < u → u ≤ 268435456 → chg p start u → (∀ x, t < x → x < u → ¬ chg p start x) → u ∈ L
theorem next_l (p : SProfile) (v : VOk p) (start t : Int) (hs : -9223372036854775808 ≤ start ∧ start ≤ 9223372036854775807) (ht : 0 ≤ t ∧ t ≤ 268435456) (L : List Int) (hlen : L.length ≤ 1000) (hsort : L.Pairwise (· ≤ ·))
    (hfull : Full p start t L) : ∀ (n i : Nat), i ≤ L.length → L.length < n + i → (∀ j (hj : j < L.length), j < i → ¬ (t < L[j] ∧ L[j] ≤ 268435456 ∧ chg p start L[j])) →
      ∃ r, profile_Next_l30 300000060 p start t L n (i : Int) = some r ∧ IsNext p start t r
  | 0, i, h1, h2, _ => by omega
  | n + 1, i, h1, h2, hb => by
    simp only [profile_Next_l30, profile_Next_b30, profile_Next_p32, profile_Next_p4]
    have hget : ∀ w ∈ L, ∃ j, ∃ hj : j < L.length, L[j] = w := fun w hw => List.getElem_of_mem hw
    by_cases hi : i < L.length
    · have e1 : decide ((i : Int) < (L.length : Int)) = true := by simpa using hi
      have e2 : 0 ≤ (i : Int) ∧ (i : Int) < (L.length : Int) := by omega
      rw [e1, cond_true, guard_pos e2, getD_nat L _ i hi, wsucc i (by omega)]
      have go : ¬ (t < L[i] ∧ L[i] ≤ 268435456 ∧ chg p start L[i]) → ∃ r, profile_Next_l30 300000060 p start t L n ((i + 1 : Nat) : Int) = some r ∧ IsNext p start t r := by
        intro hn
        refine next_l p v start t hs ht L hlen hsort hfull n (i + 1) (by omega) (by omega) ?_
        intro j hj hji
        by_cases hji2 : j = i
        · subst hji2; exact hn
        · exact hb j hj (by omega)
      by_cases c1 : L[i] ≤ t
      · rw [show decide (L[i] ≤ t) = true by simpa using c1, cond_true]; exact go (by omega)
      · rw [show decide (L[i] ≤ t) = false by simpa using c1, cond_false]
        by_cases c2 : 268435456 < L[i]
        · rw [show decide (268435456 < L[i]) = true by simpa using c2, cond_true]; exact go (by omega)
        · rw [show decide (268435456 < L[i]) = false by simpa using c2, cond_false]
          have hw : IntKind.wrap .i64 (L[i] - 1) = L[i] - 1 := Go.IntWalk.i64_in _ (by omega)
          rw [hw, prof_lim p v start _ hs (by omega), prof_lim p v start _ hs (by omega)]
          simp only [Option.bind_some]
          by_cases c3 : chg p start L[i]
          · have hr : IsNext p start t L[i] := by
              refine .inr ⟨by omega, by omega, c3, ?_⟩
              intro u hu1 hu2 hu3
              obtain ⟨w, w1, w2, w3, w4⟩ := least_chg p start t (u - t).toNat u hu1 (by omega) hu3
              obtain ⟨j, hj, hjw⟩ := hget w (hfull w w1 (by omega) w3 w4)
              have hji : j < i := by
                apply Decidable.byContradiction
                intro hge
                have : L[i] ≤ L[j] := by
                  by_cases hij : i = j
                  · subst hij; exact Int.le_refl _
                  · exact List.pairwise_iff_getElem.1 hsort i j hi hj (by omega)
                omega
              exact hb j hj hji ⟨by omega, by omega, by rw [hjw]; exact w3⟩
            have hc3 := c3
            unfold chg at hc3
            by_cases d1 : (lim p start (L[i] - 1)).1 = (lim p start L[i]).1
            · have d2 : (lim p start (L[i] - 1)).2 ≠ (lim p start L[i]).2 := fun h => hc3 (Prod.ext d1 h)
              have d3 : ((lim p start (L[i] - 1)).2 == (lim p start L[i]).2) = false := by simpa using d2
              rw [show decide ((lim p start (L[i] - 1)).1 = (lim p start L[i]).1) = true by simpa using d1, d3]
              exact ⟨_, rfl, hr⟩
            · rw [show decide ((lim p start (L[i] - 1)).1 = (lim p start L[i]).1) = false by simpa using d1]
              exact ⟨_, rfl, hr⟩
          · have hc3 : lim p start (L[i] - 1) = lim p start L[i] := by
              unfold chg at c3; exact Decidable.of_not_not c3
            rw [hc3]
            simp only [decide_true, Bool.not_true, cond_false, beq_self_eq_true]
            exact go (fun h => c3 h.2.2)
    · have e1 : decide ((i : Int) < (L.length : Int)) = false := by simp; omega
      rw [e1, cond_false]
      refine ⟨_, rfl, .inl ⟨rfl, ?_⟩⟩
      intro u hu1 hu2 hu3
      obtain ⟨w, w1, w2, w3, w4⟩ := least_chg p start t (u - t).toNat u hu1 (by omega) hu3
      obtain ⟨j, hj, hjw⟩ := hget w (hfull w w1 (by omega) w3 w4)
      exact hb j hj (by omega) ⟨by omega, by omega, by rw [hjw]; exact w3⟩
def block (p : SProfile) (o : Int) : List Int := [o] ++ (if 0 < p.Duration then [o + p.Duration] else []) ++ p.Periods.map (fun d => o + d.At)
theorem block_len (p : SProfile) (v : VOk p) (o : Int) : (block p o).length ≤ 26 := by
  have := v.len
  unfold block; split <;> simp <;> omega
theorem changes_l (p : SProfile) (v : VOk p) (o k : Int) (ho : -9223372036854775808 ≤ o ∧ o ≤ 300000000) (kl : Int → Int → (List Int) → Option (List Int)) : ∀ (n i : Nat) (o1 : List Int), i ≤ p.Periods.length → p.Periods.length < n + i → o1.length ≤ 500 + i →
    profile_changes_l83 300000060 p o k kl n (i : Int) o1 = profile_changes_p74 300000060 p o k kl (o1 ++ (p.Periods.drop i).map (fun d => o + d.At))
  | 0, i, o1, h1, h2, _ => by omega
  | n + 1, i, o1, h1, h2, h3 => by
    have hlen := v.len
    simp only [profile_changes_l83, profile_changes_b83]
    by_cases hi : i < p.Periods.length
    · have e1 : decide ((i : Int) < (p.Periods.length : Int)) = true := by simpa using hi
      have e2 : 0 ≤ (i : Int) ∧ (i : Int) < (p.Periods.length : Int) := by omega
      have ha := v.at0 i hi
      have hw : IntKind.wrap .i64 (o + p.Periods[i].At) = o + p.Periods[i].At := Go.IntWalk.i64_in _ (by omega)
      rw [e1, cond_true, guard_pos e2, getD_nat p.Periods _ i hi, wsucc i (by omega), hw, guard_pos (by simp only [List.length_cons, List.length_nil]; omega)]
      rw [changes_l p v o k ho kl n (i + 1) _ (by omega) (by omega) (by simp; omega), List.drop_eq_getElem_cons hi, List.map_cons, List.append_assoc]; rfl
    · have e1 : decide ((i : Int) < (p.Periods.length : Int)) = false := by simp; omega
      rw [e1, cond_false, List.drop_eq_nil_of_le (by omega), List.map_nil, List.append_nil]
theorem changes_b (p : SProfile) (v : VOk p) (o k : Int) (ho : -9223372036854775808 ≤ o ∧ o ≤ 300000000) (hk : k < 2) (kl : Int → Int → (List Int) → Option (List Int)) (o1 : List Int) (h3 : o1.length ≤ 400) :
    profile_changes_b64 300000060 p kl o k o1 = kl (o + cyc p.Kind) (IntKind.wrap .i64 (k + 1)) (o1 ++ block p o) := by
  have hlen := v.len
  have hdur := v.dur
  unfold profile_changes_b64
  rw [show decide (k < 2) = true by simpa using hk, cond_true, guard_pos (by simp only [List.length_cons, List.length_nil]; omega)]
  have hp : ∀ o2 : List Int, o2.length ≤ 500 → profile_changes_p87 300000060 p o k kl o2 = kl (o + cyc p.Kind) (IntKind.wrap .i64 (k + 1)) (o2 ++ p.Periods.map (fun d => o + d.At)) := by
    intro o2 ho2
    unfold profile_changes_p87
    have h := changes_l p v o k ho kl 300000060 0 o2 (by omega) (by omega) (by omega)
    simp only [Int.natCast_zero, List.drop_zero] at h
    rw [h]
    unfold profile_changes_p74 profile_changes_p68
    have hcc := cyc_cases p.Kind
    rw [cyc_prof, Option.bind_some, Go.IntWalk.i64_in (o + cyc p.Kind) (by omega)]
  by_cases hd : 0 < p.Duration
  · have hw : IntKind.wrap .i64 (o + p.Duration) = o + p.Duration := Go.IntWalk.i64_in _ (by omega)
    rw [show decide (0 < p.Duration) = true by simpa using hd, cond_true, hw, guard_pos (by simp only [List.length_append, List.length_cons, List.length_nil]; omega), hp _ (by simp; omega)]
    unfold block
    rw [if_pos hd]
    simp only [List.append_assoc]
  · rw [show decide (0 < p.Duration) = false by simpa using hd, cond_false, hp _ (by simp; omega)]
    unfold block
    rw [if_neg hd]
    simp only [List.append_assoc, List.nil_append, List.append_nil]
def mx (p : SProfile) (start t : Int) : Int := if (if t < p.Span_From then p.Span_From else t) < org p start then org p start else (if t < p.Span_From then p.Span_From else t)
def clist (p : SProfile) (start t : Int) : List Int :=
  if org p start ≤ 268435456 then [p.Span_From, p.Span_To] ++ block p (mx p start t - past p start (mx p start t)) ++ block p (mx p start t - past p start (mx p start t) + cyc p.Kind) else [p.Span_From, p.Span_To]
theorem prof_first (p : SProfile) (start : Int) : profile_first 300000060 p start = some (org p start) := by
  unfold profile_first org
  by_cases h4 : p.Kind = 4 <;> simp [h4]
theorem prof_origin (p : SProfile) (v : VOk p) (start t : Int) (hs : -9223372036854775808 ≤ start ∧ start ≤ 9223372036854775807) (ht : -9223372036854775808 ≤ t ∧ t ≤ 9223372036854775807) :
    profile_origin 300000060 p start t = some (if t < org p start then (0, false) else (t - past p start t, true)) := by
  obtain ⟨r, h1, h2, _⟩ := origin_eq p v start t hs ht
  rw [origin_ref p v start t hs ht] at h2; rw [h1, ← h2]
theorem p7_eqC (L : List Int) (h : L.length ≤ 500) : profile_changes_p7 300000060 L = some (sortI L) := by
  unfold profile_changes_p7 slices_Sort_int_int
  rw [guard_pos (by omega), Option.bind_some, guard_pos (sortI_len L)]
theorem changes_64 (p : SProfile) (v : VOk p) (o : Int) (ho : -9223372036854775808 ≤ o ∧ o ≤ 268435456) (o1 : List Int) (h3 : o1.length ≤ 100) (n : Nat) :
    profile_changes_l64 300000060 p (n + 3) o 0 o1 = profile_changes_p7 300000060 (o1 ++ block p o ++ block p (o + cyc p.Kind)) := by
  have hcc := cyc_cases p.Kind
  have b1 := block_len p v o
  rw [profile_changes_l64, changes_b p v o 0 (by omega) (by omega) _ o1 (by omega)]
  have e1 : IntKind.wrap .i64 (0 + 1) = 1 := by decide
  rw [e1, profile_changes_l64, changes_b p v (o + cyc p.Kind) 1 (by omega) (by omega) _ _ (by rw [List.length_append]; omega)]
  have e2 : IntKind.wrap .i64 (1 + 1) = 2 := by decide
  rw [e2, profile_changes_l64]
  unfold profile_changes_b64
  rfl
theorem mx_ge (p : SProfile) (start t : Int) : t ≤ mx p start t ∧ p.Span_From ≤ mx p start t ∧ org p start ≤ mx p start t ∧ (mx p start t = t ∨ mx p start t = p.Span_From ∨ mx p start t = org p start) := by
  unfold mx; split <;> split at * <;> omega
theorem changes_eq (p : SProfile) (v : VOk p) (start t : Int) (hs : -9223372036854775808 ≤ start ∧ start ≤ 9223372036854775807) (ht : 0 ≤ t ∧ t ≤ 268435456) :
    profile_changes 300000060 p start t = some (sortI (clist p start t)) := by
  unfold profile_changes clist
  rw [prof_first, Option.bind_some]
  have hm := mx_ge p start t
  have hf := v.from_
  have hst := v.start
  by_cases h : org p start ≤ 268435456
  · rw [show decide (org p start ≤ 268435456) = true by simpa using h, cond_true, if_pos h]
    have hd : (if (if t < p.Span_From then p.Span_From else t) < org p start then org p start else (if t < p.Span_From then p.Span_From else t)) = mx p start t := rfl
    rw [hd, prof_origin p v start _ hs (by omega), if_neg (by omega), Option.bind_some]
    have hb := past_bound p v start (mx p start t) hs (by omega) (by omega)
    have ho : -9223372036854775808 ≤ org p start := by unfold org; split <;> omega
    have hl := changes_64 p v (mx p start t - past p start (mx p start t)) (by omega) [p.Span_From, p.Span_To] (by simp) 300000057
    have b1 := block_len p v (mx p start t - past p start (mx p start t))
    have b2 := block_len p v (mx p start t - past p start (mx p start t) + cyc p.Kind)
    refine hl.trans (p7_eqC _ ?_)
    simp only [List.length_append, List.length_cons, List.length_nil]; omega
  · rw [show decide (org p start ≤ 268435456) = false by simpa using h, cond_false, if_neg h]
    exact p7_eqC _ (by simp)
theorem lim_per_add (p : SProfile) (start x : Int) (h1 : p.Span_From ≤ x) (h2 : p.Span_To = -1 ∨ x + cyc p.Kind < p.Span_To) (h3 : org p start ≤ x) (hc : cyc p.Kind ≠ 0) : lim p start (x + cyc p.Kind) = lim p start x := by
  have hcc := cyc_cases p.Kind
  have hp : past p start (x + cyc p.Kind) = past p start x := by
    unfold past
    rw [if_neg hc, if_neg hc, show x + cyc p.Kind - org p start = (x - org p start) + cyc p.Kind by omega, Int.add_emod_right]
  unfold lim
  rw [hp, if_neg (by omega), if_neg (by omega), if_neg (by omega), if_neg (show ¬ x < p.Span_From by omega), if_neg (show ¬ (p.Span_To ≠ -1 ∧ p.Span_To ≤ x) by omega), if_neg (show ¬ x < org p start by omega)]
theorem chg_from (p : SProfile) (start u : Int) (h : chg p start u) : p.Span_From ≤ u ∧ org p start ≤ u ∧ (p.Span_To = -1 ∨ u ≤ p.Span_To) := by
  apply Decidable.byContradiction
  intro hn
  apply h; unfold lim
  by_cases a1 : u < p.Span_From
  · rw [if_pos (show u - 1 < p.Span_From by omega), if_pos a1]
  · by_cases a2 : p.Span_To ≠ -1 ∧ p.Span_To ≤ u - 1
    · by_cases a3 : u - 1 < p.Span_From
      · rw [if_pos a3, if_neg a1, if_pos (by omega)]
      · rw [if_neg a3, if_neg a1, if_pos a2, if_pos (by omega)]
    · have a4 : u < org p start := by omega
      by_cases a3 : u - 1 < p.Span_From
      · rw [if_pos a3, if_neg a1, if_pos a4]
        split <;> rfl
      · rw [if_neg a3, if_neg a1, if_neg a2, if_pos (show u - 1 < org p start by omega), if_pos a4]
        split <;> rfl
theorem chg_back (p : SProfile) (start u : Int) (h : chg p start u) (hc : cyc p.Kind ≠ 0) (h1 : p.Span_From ≤ u - cyc p.Kind - 1) (h2 : org p start ≤ u - cyc p.Kind - 1) (h3 : p.Span_To = -1 ∨ u < p.Span_To) : chg p start (u - cyc p.Kind) := by
  unfold chg at *
  have hcc := cyc_cases p.Kind
  have e1 := lim_per_add p start (u - cyc p.Kind) (by omega) (by omega) (by omega) hc
  have e2 := lim_per_add p start (u - cyc p.Kind - 1) (by omega) (by omega) (by omega) hc
  rw [show u - cyc p.Kind + cyc p.Kind = u by omega] at e1
  rw [show u - cyc p.Kind - 1 + cyc p.Kind = u - 1 by omega] at e2
  rw [← e1, ← e2]; exact h
theorem block_mem (p : SProfile) (v : VOk p) (start u o : Int) (hm : mark p start u) (ho : u = o + past p start u) : u ∈ block p o := by
  unfold block
  rcases hm.2 with ⟨d, hd, he⟩ | ⟨h1, h2⟩
  · refine List.mem_append_right _ (List.mem_map.2 ⟨d, hd, by omega⟩)
  · have := v.dur
    refine List.mem_append_left _ (List.mem_append_right _ ?_)
    rw [if_pos (by omega)]
    simp; omega
theorem full (p : SProfile) (v : VOk p) (start t : Int) (ht : 0 ≤ t ∧ t ≤ 268435456) : Full p start t (clist p start t) := by
  intro u hu1 hu2 hc hl
  have hcf := chg_from p start u hc
  have hm := mx_ge p start t
  unfold clist
  rw [if_pos (by omega)]
  by_cases hto : p.Span_To ≠ -1 ∧ u = p.Span_To
  · refine List.mem_append_left _ (List.mem_append_left _ ?_)
    simp; omega
  rcases chg_at p v start u hc with h | h | hmk
  · refine List.mem_append_left _ (List.mem_append_left _ ?_)
    simp; omega
  · exact absurd h hto
  · have hmu : mx p start t ≤ u := by omega
    have key : u = mx p start t - past p start (mx p start t) + past p start u ∨ u = mx p start t - past p start (mx p start t) + cyc p.Kind + past p start u := by
      have hle : cyc p.Kind ≠ 0 → u ≤ mx p start t + cyc p.Kind := by
        intro hcn
        apply Decidable.byContradiction
        intro hgt
        have hcc := cyc_cases p.Kind
        exact hl (u - cyc p.Kind) (by omega) (by omega) (chg_back p start u hc hcn (by omega) (by omega) (by omega))
      have h1 := hm.2.2.1
      have h2 := hmk.1
      unfold past
      rcases cyc_cases p.Kind with ⟨h, _⟩ | ⟨h, _⟩ | ⟨h, _⟩ <;> rw [h] at hle ⊢ <;> simp at hle ⊢ <;> omega
    rcases key with h | h
    · exact List.mem_append_left _ (List.mem_append_right _ (block_mem p v start u _ hmk h))
    · exact List.mem_append_right _ (block_mem p v start u _ hmk h)
theorem clist_len (p : SProfile) (v : VOk p) (start t : Int) : (clist p start t).length ≤ 100 := by
  unfold clist
  split
  · have b1 := block_len p v (mx p start t - past p start (mx p start t))
    have b2 := block_len p v (mx p start t - past p start (mx p start t) + cyc p.Kind)
    simp only [List.length_append, List.length_cons, List.length_nil]; omega
  · simp
theorem prof_next (p : SProfile) (v : VOk p) (start t : Int) (hs : -9223372036854775808 ≤ start ∧ start ≤ 9223372036854775807) (ht : 0 ≤ t ∧ t ≤ 268435456) :
    ∃ r, profile_Next 300000060 p start t = some r ∧ IsNext p start t r := by
  have hlen := v.len
  have hcl := clist_len p v start t
  unfold profile_Next
  rw [show decide (t < 0) = false by simp; omega, show decide (268435456 < t) = false by simp; omega, show decide (24 < (p.Periods.length : Int)) = false by simp; omega, changes_eq p v start t hs ht]
  simp only [cond_false, Option.bind_some]
  have hf : Full p start t (sortI (clist p start t)) := fun u a b c d => (sortI_perm _).mem_iff.2 (full p v start t ht u a b c d)
  have h := next_l p v start t hs ht (sortI (clist p start t)) (by rw [sortI_len]; omega) (sortI_sorted _) hf 300000060 0 (by omega) (by rw [sortI_len]; omega) (fun j _ h => absurd h (by omega))
  simpa only [Int.natCast_zero] using h
theorem lim_const (p : SProfile) (start t : Int) : ∀ (n : Nat), (∀ u, t < u → u ≤ t + n → ¬ chg p start u) → lim p start (t + n) = lim p start t
  | 0, h => by simp
  | n + 1, h => by
    have h1 := lim_const p start t n (fun u a b => h u a (by omega))
    have h2 := h (t + (n + 1 : Nat)) (by omega) (by omega)
    unfold chg at h2
    have h3 : lim p start (t + (n + 1 : Nat) - 1) = lim p start (t + (n + 1 : Nat)) := Decidable.of_not_not h2
    rw [← h3, ← h1]
    congr 1
    omega
theorem lim_const' (p : SProfile) (start t x : Int) (hx : t ≤ x) (h : ∀ u, t < u → u ≤ x → ¬ chg p start u) : lim p start x = lim p start t := by
  have := lim_const p start t (x - t).toNat (fun u a b => h u a (by omega))
  rw [← this]; congr 1; omega
end Go.Proofs.Ytfbkimhoncfnmaa.M

