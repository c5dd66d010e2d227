/- Plain laws of chapter 13: curtail.Next returns the next time at which a limit changes. -/
import Derived.Test.YtcccjpkfifefaaaPlainC
namespace Go.Proofs.Ytcccjpkfifefaaa.M
open Go Go.Proofs.Ytcccjpkfifefaaa.E Go.Proofs.Ytcccjpkfifefaaa.W
set_option linter.unusedVariables false
set_option linter.unusedSimpArgs false

/-! ### Compact -/
def Cpt (s r : List Int) : Prop := r.length ≤ s.length ∧ r.Pairwise (· ≤ ·) ∧ ∀ x, x ∈ r ↔ x ∈ s

theorem mem_take_succ (s : List Int) (k : Nat) (hk : k < s.length) (x : Int) : x ∈ s.take (k + 1) ↔ x ∈ s.take k ∨ x = s[k] := by
  rw [List.take_succ_eq_append_getElem hk, List.mem_append, List.mem_singleton]

theorem compact_l124 (s : List Int) (hs : s.Pairwise (· ≤ ·)) (hlen : s.length ≤ 900) (k0 : Nat) (hk0 : 1 ≤ k0 ∧ k0 < s.length) : ∀ (n k k2 : Nat) (o : List Int), 1 ≤ k2 → k0 + k2 ≤ s.length → s.length < n + k0 + k2 → o.length = s.length → k ≤ k0 + k2 - 1 → 1 ≤ k →
    (∀ j, k ≤ j → o[j]? = s[j]?) → (o.take k).Pairwise (· ≤ ·) → (∀ x, x ∈ o.take k ↔ x ∈ s.take (k0 + k2)) → ∃ r, slices_Compact_int_int_l124 s (k0 : Int) n (k : Int) (k2 : Int) o = some r ∧ Cpt s r
  | 0, k, k2, o, h1, h2, h3, _, _, _, _, _, _ => by omega
  | n + 1, k, k2, o, h1, h2, h3, h4, h5, h6, h7, h8, h9 => by
    simp only [slices_Compact_int_int_l124, slices_Compact_int_int_b124, Int.toNat_natCast]
    by_cases hk : k0 + k2 < s.length
    · have e1 : decide ((k2 : Int) < ((s.length - k0 : Nat) : Int)) = true := by simp; omega
      have w1 : IntKind.wrap .i64 ((k2 : Int) - 1) = ((k2 - 1 : Nat) : Int) := by rw [Go.IntWalk.i64_in _ (by omega)]; omega
      have g1 : o.getD (k0 + k2) 0 = s[k0 + k2] := by rw [List.getD_eq_getElem?_getD, h7 _ (by omega), List.getElem?_eq_getElem hk]; rfl
      have hk' : k0 + (k2 - 1) < s.length := by omega
      have g2 : o.getD (k0 + (k2 - 1)) 0 = s[k0 + (k2 - 1)] := by rw [List.getD_eq_getElem?_getD, h7 _ (by omega), List.getElem?_eq_getElem hk']; rfl
      rw [e1, cond_true, guard_pos (by omega), w1]
      simp only [Int.toNat_natCast]
      rw [guard_pos (by omega)]
      simp only [g1, g2]
      have hle : s[k0 + (k2 - 1)] ≤ s[k0 + k2] := List.pairwise_iff_getElem.1 hs _ _ hk' hk (by omega)
      by_cases he : s[k0 + k2] = s[k0 + (k2 - 1)]
      · rw [show decide (s[k0 + k2] = s[k0 + (k2 - 1)]) = true by simpa using he]
        simp only [Bool.not_true, cond_false]
        unfold slices_Compact_int_int_p128
        rw [wsucc k2 (by omega)]
        refine compact_l124 s hs hlen k0 hk0 n k (k2 + 1) o (by omega) (by omega) (by omega) h4 (by omega) h6 h7 h8 (fun x => ?_)
        rw [show k0 + (k2 + 1) = k0 + k2 + 1 by omega, mem_take_succ s _ hk, h9]
        constructor
        · exact .inl
        · rintro (h | h)
          · exact h
          · rw [h, he]
            have : k0 + k2 = k0 + (k2 - 1) + 1 := by omega
            rw [this, mem_take_succ s _ hk']
            exact .inr rfl
      · rw [show decide (s[k0 + k2] = s[k0 + (k2 - 1)]) = false by simpa using he]
        simp only [Bool.not_false, cond_true]
        rw [guard_pos (by omega), guard_pos (by omega)]
        unfold slices_Compact_int_int_p128
        rw [wsucc k2 (by omega), wsucc k (by omega)]
        have hko : k < o.length := by omega
        have htk : (o.set k s[k0 + k2]).take (k + 1) = o.take k ++ [s[k0 + k2]] := by
          rw [List.take_succ_eq_append_getElem (by simpa using hko), List.take_set, List.set_eq_of_length_le (by rw [List.length_take]; omega)]
          simp
        refine compact_l124 s hs hlen k0 hk0 n (k + 1) (k2 + 1) (o.set k s[k0 + k2]) (by omega) (by omega) (by omega) (by simpa using h4) (by omega) (by omega) (fun j hj => ?_) ?_ (fun x => ?_)
        · rw [List.getElem?_set_ne (by omega)]; exact h7 j (by omega)
        · rw [htk, List.pairwise_append]
          refine ⟨h8, by simp, fun x hx y hy => ?_⟩
          have hy' : y = s[k0 + k2] := by simpa using hy
          subst hy'
          obtain ⟨j, hj, rfl⟩ := List.getElem_of_mem ((h9 x).1 hx)
          rw [List.getElem_take]
          rw [List.length_take] at hj
          exact List.pairwise_iff_getElem.1 hs j (k0 + k2) (by omega) hk (by omega)
        · rw [htk, List.mem_append, h9, show k0 + (k2 + 1) = k0 + k2 + 1 by omega, mem_take_succ s _ hk]
          simp
    · have e1 : decide ((k2 : Int) < ((s.length - k0 : Nat) : Int)) = false := by simp; omega
      rw [e1, cond_false]
      unfold slices_Compact_int_int_p102
      simp only [Int.toNat_natCast]
      have hl1 : (copyL o k (o.length - k) (List.replicate (o.length - k) 0)).length = o.length := copyL_len (by omega)
      rw [guard_pos (by omega), guard_pos (by omega), guard_pos (by omega)]
      refine ⟨_, rfl, ?_⟩
      have ht : (copyL o k (o.length - k) (List.replicate (o.length - k) 0)).take k = o.take k := by
        unfold copyL
        rw [List.append_assoc, List.take_append_of_le_length (by simp; omega), List.take_take, Nat.min_self]
      rw [ht]
      refine ⟨by simp; omega, h8, fun x => ?_⟩
      rw [h9, List.take_of_length_le (by omega)]

theorem compact_l90 (s : List Int) (hs : s.Pairwise (· ≤ ·)) (hlen : s.length ≤ 900) : ∀ (n k : Nat), 1 ≤ k → k ≤ s.length → s.length < n + k → ∃ r, slices_Compact_int_int_l90 1000 s n (k : Int) = some r ∧ Cpt s r
  | 0, k, h1, h2, h3 => by omega
  | n + 1, k, h1, h2, h3 => by
    simp only [slices_Compact_int_int_l90, slices_Compact_int_int_b90]
    by_cases hk : k < s.length
    · have e1 : decide ((k : Int) < (s.length : Int)) = true := by simpa using hk
      have w1 : IntKind.wrap .i64 ((k : Int) - 1) = ((k - 1 : Nat) : Int) := by rw [Go.IntWalk.i64_in _ (by omega)]; omega
      have hk1 : k - 1 < s.length := by omega
      rw [e1, cond_true, guard_pos (by omega), w1, guard_pos (by omega), getD_nat s _ k hk, getD_nat s _ (k - 1) hk1]
      by_cases he : s[k] = s[k - 1]
      · rw [show decide (s[k] = s[k - 1]) = true by simpa using he, cond_true, guard_pos (by omega)]
        have := compact_l124 s hs hlen k ⟨h1, hk⟩ 1000 k 1 s (by omega) (by omega) (by omega) rfl (by omega) h1 (fun _ _ => rfl) hs.take (fun x => ?_)
        · simpa only [Int.natCast_one] using this
        · rw [mem_take_succ s k hk]
          constructor
          · exact .inl
          · rintro (h | h)
            · exact h
            · rw [h, he]
              have e : k = k - 1 + 1 := by omega
              have : s[k - 1] ∈ s.take (k - 1 + 1) := by rw [mem_take_succ s _ hk1]; exact .inr rfl
              rwa [← e] at this
      · rw [show decide (s[k] = s[k - 1]) = false by simpa using he, cond_false]
        unfold slices_Compact_int_int_p92
        rw [wsucc k (by omega)]
        exact compact_l90 s hs hlen n (k + 1) (by omega) (by omega) (by omega)
    · have e1 : decide ((k : Int) < (s.length : Int)) = false := by simp; omega
      rw [e1, cond_false]
      exact ⟨s, rfl, Nat.le_refl _, hs, fun _ => Iff.rfl⟩

theorem compact_eq (s : List Int) (hs : s.Pairwise (· ≤ ·)) (hlen : s.length ≤ 900) : ∃ r, slices_Compact_int_int 1000 s = some r ∧ Cpt s r := by
  unfold slices_Compact_int_int
  by_cases h : (s.length : Int) < 2
  · rw [show decide ((s.length : Int) < 2) = true by simpa using h, cond_true]
    exact ⟨s, rfl, Nat.le_refl _, hs, fun _ => Iff.rfl⟩
  · rw [show decide ((s.length : Int) < 2) = false by simpa using h, cond_false]
    have := compact_l90 s hs hlen 1000 1 (by omega) (by omega) (by omega)
    simpa only [Int.natCast_one] using this

/-! ### Next -/
theorem next_l19 (l : List SCurtail) (hl : Lim13 l) (t : Int) (L : List Int) (hlen : L.length ≤ 900) (hs : L.Pairwise (· ≤ ·)) (hr : ∀ x ∈ L, t < x ∧ 0 ≤ x ∧ x ≤ 268435456) (hf : ∀ u, t < u → Chg l u → u ∈ L) :
    ∀ (n i : Nat), i ≤ L.length → L.length < n + i → (∀ j (hj : j < L.length), j < i → ¬ Chg l L[j]) → ∃ r, curtail_Next_l19 1000 l L n (i : Int) = some r ∧ IsNext l t r
  | 0, i, h1, h2, _ => by omega
  | n + 1, i, h1, h2, h3 => by
    simp only [curtail_Next_l19, curtail_Next_b19]
    by_cases hi : i < L.length
    · have e1 : decide ((i : Int) < (L.length : Int)) = true := by simpa using hi
      have hx := hr L[i] (List.getElem_mem hi)
      obtain ⟨b, hb, hbi⟩ := differs_eq l hl L[i] hx.2
      rw [e1, cond_true, guard_pos (by omega), getD_nat L _ i hi, hb, Option.bind_some]
      cases b with
      | true =>
        refine ⟨_, rfl, .inr ⟨hx.2.1, hx.1, hbi.1 rfl, fun u hu hlt hc => ?_⟩⟩
        obtain ⟨j, hj, rfl⟩ := List.getElem_of_mem (hf u hu hc)
        have hji : j < i := by
          apply Decidable.byContradiction
          intro hge
          have : L[i] ≤ L[j] := by
            by_cases hij : i = j
            · subst hij; exact Int.le_refl _
            · exact List.pairwise_iff_getElem.1 hs i j hi hj (by omega)
          omega
        exact h3 j hj hji hc
      | false =>
        rw [cond_false, wsucc i (by omega)]
        refine next_l19 l hl t L hlen hs hr hf n (i + 1) (by omega) (by omega) (fun j hj hji => ?_)
        by_cases he : j = i
        · subst he; intro hc; have := hbi.2 hc; cases this
        · exact h3 j hj (by omega)
    · have e1 : decide ((i : Int) < (L.length : Int)) = false := by simp; omega
      rw [e1, cond_false]
      refine ⟨-1, rfl, .inl ⟨rfl, fun u hu hc => ?_⟩⟩
      obtain ⟨j, hj, rfl⟩ := List.getElem_of_mem (hf u hu hc)
      exact h3 j hj (by omega) hc

def times (l : List SCurtail) (t : Int) : List Int := l.flatMap fun c => if c.Cancelled then [] else [c.Span_From, c.Span_To].filter (fun x => decide (t < x))

theorem times_len (l : List SCurtail) (t : Int) : (times l t).length ≤ 2 * l.length := by
  unfold times
  induction l with
  | nil => simp
  | cons c l ih =>
    rw [List.flatMap_cons, List.length_append, List.length_cons]
    have : (if c.Cancelled then [] else [c.Span_From, c.Span_To].filter (fun x => decide (t < x))).length ≤ 2 := by
      split
      · simp
      · exact Nat.le_trans (List.length_filter_le _ _) (by simp)
    omega

theorem next_in (l : List SCurtail) (t : Int) (i : Nat) (hi : i < l.length) (kl : Int → (List Int) → Option Int) (o : List Int) (ho : o.length ≤ 300) :
    curtail_Next_l105 l t (i : Int) kl 1000 0 o = kl (IntKind.wrap .i64 ((i : Int) + 1)) (o ++ (if l[i].Cancelled then [] else [l[i].Span_From, l[i].Span_To].filter (fun x => decide (t < x)))) := by
  have e0 : IntKind.wrap .i64 ((0 : Int) + 1) = 1 := by decide
  have e1 : IntKind.wrap .i64 ((1 : Int) + 1) = 2 := by decide
  have step : ∀ (n : Nat) (q : Int) (o : List Int) (x : Int), o.length ≤ 301 → (q = 0 ∨ q = 1) → x = (if q = 0 then l[i].Span_From else l[i].Span_To) →
      curtail_Next_l105 l t (i : Int) kl (n + 1) q o = curtail_Next_l105 l t (i : Int) kl n (IntKind.wrap .i64 (q + 1)) (o ++ (if l[i].Cancelled then [] else [x].filter (fun x => decide (t < x)))) := by
    intro n q o x ho hq hx
    simp only [curtail_Next_l105, curtail_Next_b105, curtail_Next_p108, getD_nat l _ i hi]
    have hx2 : ([l[i].Span_From, l[i].Span_To] : List Int).getD q.toNat 0 = x := by rcases hq with rfl | rfl <;> simp [hx]
    rw [hx2, show decide (q < 2) = true by simp; omega, cond_true, guard_pos (by omega)]
    cases l[i].Cancelled with
    | true => simp
    | false =>
      by_cases h : t < x
      · rw [show decide (t < x) = true by simpa using h]
        simp only [Bool.not_false, cond_true]
        rw [guard_pos (by simp; omega)]
        simp [h]
      · simp [h]
  have fin : ∀ (n : Nat) (o : List Int), curtail_Next_l105 l t (i : Int) kl (n + 1) 2 o = kl (IntKind.wrap .i64 ((i : Int) + 1)) o := by
    intro n o
    simp only [curtail_Next_l105, curtail_Next_b105]
    rfl
  rw [step 999 0 o l[i].Span_From (by omega) (.inl rfl) (by simp), e0, step 998 1 _ l[i].Span_To ?_ (.inr rfl) (by simp), e1]
  · have : o ++ (if l[i].Cancelled = true then [] else [l[i].Span_From].filter (fun x => decide (t < x))) ++ (if l[i].Cancelled = true then [] else [l[i].Span_To].filter (fun x => decide (t < x))) = o ++ (if l[i].Cancelled = true then [] else [l[i].Span_From, l[i].Span_To].filter (fun x => decide (t < x))) := by
      cases l[i].Cancelled with
      | true => simp
      | false =>
        simp only [Bool.false_eq_true, if_false, List.append_assoc]
        congr 1
        rw [← List.filter_append]; rfl
    rw [fin 997, this]
  · have : (if l[i].Cancelled = true then [] else [l[i].Span_From].filter (fun x => decide (t < x))).length ≤ 1 := by
      split
      · simp
      · exact Nat.le_trans (List.length_filter_le _ _) (by simp)
    rw [List.length_append]; omega

theorem next_l84 (l : List SCurtail) (hl : l.length ≤ 64) (t : Int) : ∀ (n i : Nat), i ≤ l.length → l.length < n + i → curtail_Next_l84 1000 l t n (i : Int) (times (l.take i) t) = curtail_Next_p25 1000 l (times l t)
  | 0, i, h1, h2 => by omega
  | n + 1, i, h1, h2 => by
    simp only [curtail_Next_l84, curtail_Next_b84]
    by_cases hi : i < l.length
    · have e1 : decide ((i : Int) < (l.length : Int)) = true := by simpa using hi
      have hlen := times_len (l.take i) t
      rw [List.length_take] at hlen
      have htk : times (l.take (i + 1)) t = times (l.take i) t ++ (if l[i].Cancelled then [] else [l[i].Span_From, l[i].Span_To].filter (fun x => decide (t < x))) := by
        rw [List.take_succ_eq_append_getElem hi]
        unfold times
        rw [List.flatMap_append]
        simp
      rw [e1, cond_true, guard_pos (by omega), next_in l t i hi _ _ (by omega), wsucc i (by omega), ← htk]
      exact next_l84 l hl t n (i + 1) (by omega) (by omega)
    · have e1 : decide ((i : Int) < (l.length : Int)) = false := by simp; omega
      rw [e1, cond_false, List.take_of_length_le (by omega)]

theorem times_mem (l : List SCurtail) (t x : Int) : x ∈ times l t ↔ ∃ c ∈ l, c.Cancelled = false ∧ (x = c.Span_From ∨ x = c.Span_To) ∧ t < x := by
  unfold times
  rw [List.mem_flatMap]
  constructor
  · rintro ⟨c, hc, hx⟩
    cases hcc : c.Cancelled with
    | true => rw [hcc] at hx; simp at hx
    | false =>
      rw [hcc] at hx
      simp only [Bool.false_eq_true, if_false, List.mem_filter, decide_eq_true_eq, List.mem_cons, List.not_mem_nil, or_false] at hx
      exact ⟨c, hc, hcc, hx.1, hx.2⟩
  · rintro ⟨c, hc, hcc, h1, h2⟩
    refine ⟨c, hc, ?_⟩
    rw [hcc]
    simp only [Bool.false_eq_true, if_false, List.mem_filter, decide_eq_true_eq, List.mem_cons, List.not_mem_nil, or_false]
    exact ⟨h1, h2⟩

theorem next_eq (l : List SCurtail) (hl : Lim13 l) (t : Int) : ∃ r, curtail_Next 1000 l t = some r ∧ IsNext l t r := by
  have h1 := next_l84 l hl.1 t 1000 0 (by omega) (by have := hl.1; omega)
  have h0 : times (l.take 0) t = [] := by simp [times]
  rw [h0] at h1
  simp only [Int.natCast_zero] at h1
  have hlen := times_len l t
  have hl1 := hl.1
  have hsl := sortI_len (times l t)
  unfold curtail_Next
  rw [h1]
  unfold curtail_Next_p25 slices_Sort_int_int
  obtain ⟨r, hr, hc⟩ := compact_eq (sortI (times l t)) (sortI_sorted _) (by omega)
  rw [guard_pos (by omega), Option.bind_some, guard_pos hsl, hr, Option.bind_some]
  have hmem : ∀ x, x ∈ r ↔ x ∈ times l t := fun x => by rw [hc.2.2, (sortI_perm _).mem_iff]
  have := next_l19 l hl t r (by have := hc.1; omega) hc.2.1 (fun x hx => by
      obtain ⟨c, hcm, _, h2, h3⟩ := (times_mem l t x).1 ((hmem x).1 hx)
      have := (hl.2 c hcm).span
      exact ⟨h3, by omega, by omega⟩) (fun u hu hcu => by
      obtain ⟨f, _, _, hf⟩ := hcu
      obtain ⟨c, hcm, _, hcc, h2⟩ := chg_event l f u hf
      exact (hmem u).2 ((times_mem l t u).2 ⟨c, hcm, hcc, by omega, hu⟩)) 1000 0 (by omega) (by have := hc.1; omega) (fun j _ h => absurd h (by omega))
  simpa only [Int.natCast_zero] using this

/-! ### A list that is built -/
theorem build_l (l : List SCurtail) (hl : l.length ≤ 100) : ∀ (n t : Nat) (a : List SCurtail), Inv a → t ≤ l.length → l.length < n + t → ∃ r, chargenetlaw13_build_l23 1000 l n a (t : Int) = some (r, true) ∧ Inv r
  | 0, t, a, hi, h1, h2 => by omega
  | n + 1, t, a, hi, h1, h2 => by
    simp only [chargenetlaw13_build_l23, chargenetlaw13_build_b23]
    by_cases ht : t < l.length
    · have e1 : decide ((t : Int) < (l.length : Int)) = true := by simpa using ht
      obtain ⟨r, h3, _, h5⟩ := put_both a hi l[t]
      have hi2 := put_inv a hi l[t] r h5
      obtain ⟨q, hq, hqi⟩ := build_l l hl n (t + 1) r.1 hi2 (by omega) (by omega)
      have h28 : chargenetlaw13_build_p28 (t : Int) (fun out_12 t10_13 => chargenetlaw13_build_l23 1000 l n out_12 t10_13) r = some (q, true) := by
        unfold chargenetlaw13_build_p28
        rw [wsucc t (by omega)]; exact hq
      rw [e1, cond_true, guard_pos (by omega), getD_nat l _ t ht, h3, Option.bind_some, h28]
      by_cases h0 : r.2 = 0
      · rw [show decide (r.2 = 0) = true by simpa using h0]; exact ⟨q, rfl, hqi⟩
      · have hra : r.1 = a := by
          rcases h5 with h | h
          · exact h.2
          · exact absurd h.1 h0
        rw [show decide (r.2 = 0) = false by simpa using h0, hra, equal_self a (by have := hi.len; omega)]
        exact ⟨q, rfl, hqi⟩
    · have e1 : decide ((t : Int) < (l.length : Int)) = false := by simp; omega
      rw [e1, cond_false]
      exact ⟨a, rfl, hi⟩

theorem build_eq (l : List SCurtail) (hl : l.length ≤ 100) : ∃ r, chargenetlaw13_build 1000 l = some (r, true) ∧ Inv r := by
  have := build_l l hl 1000 0 [] inv_nil (by omega) (by omega)
  unfold chargenetlaw13_build
  simpa only [Int.natCast_zero] using this

end Go.Proofs.Ytcccjpkfifefaaa.M
