/- The plain law of CurtailCancel: a cancelled event limits nothing. -/
import Derived.Test.YtcccjpkfifefaaaPlainD
namespace Go.Proofs.Ytcccjpkfifefaaa.M
open Go Go.Proofs.Ytcccjpkfifefaaa.E Go.Proofs.Ytcccjpkfifefaaa.W
set_option linter.unusedVariables false
set_option linter.unusedSimpArgs false

theorem fold_filter (f t : Int) (p : SCurtail → Bool) : ∀ (l : List SCurtail) (lim : Int), (∀ c ∈ l, p c = false → c.Cancelled = true) → l.foldl (stp f t) lim = (l.filter p).foldl (stp f t) lim
  | [], _, _ => rfl
  | c :: l, lim, h => by
    have ih := fun lim => fold_filter f t p l lim (fun d hd => h d (List.mem_cons_of_mem _ hd))
    rw [List.foldl_cons, ih]
    cases hp : p c with
    | true => rw [List.filter_cons_of_pos hp, List.foldl_cons]
    | false =>
      have hc := h c (List.mem_cons_self ..) hp
      rw [List.filter_cons_of_neg (by simp [hp])]
      congr 1
      unfold stp
      have hna : ¬ act c t := fun ha => by have := ha.1; rw [hc] at this; cases this
      rw [if_neg (fun ha => hna ha.2)]

theorem index_l (s : List SCurtail) (hs : s.length ≤ 900) (c : SCurtail) : ∀ (n i : Nat), i ≤ s.length → s.length < n + i → ∃ r : Int, slices_IndexFunc_api_Curtail_api_Curtail_f1_22_l13 1000 s c n (i : Int) = some r ∧
    ((r = -1 ∧ ∀ x ∈ s.drop i, sEq x.Name c.Name = false) ∨ ∃ k : Nat, r = (k : Int) ∧ i ≤ k ∧ ∃ hk : k < s.length, sEq s[k].Name c.Name = true ∧ ∀ j (hj : j < s.length), i ≤ j → j < k → sEq s[j].Name c.Name = false)
  | 0, i, h1, h2 => by omega
  | n + 1, i, h1, h2 => by
    simp only [slices_IndexFunc_api_Curtail_api_Curtail_f1_22_l13, slices_IndexFunc_api_Curtail_api_Curtail_f1_22_b13, chargenetlaw13_CurtailCancel_1]
    by_cases hi : i < s.length
    · have e1 : decide ((i : Int) < (s.length : Int)) = true := by simpa using hi
      rw [e1, cond_true, guard_pos (by omega), getD_nat s _ i hi, Option.bind_some]
      cases hq : sEq s[i].Name c.Name with
      | true => exact ⟨(i : Int), rfl, .inr ⟨i, rfl, Nat.le_refl _, hi, hq, fun j _ h1 h2 => by omega⟩⟩
      | false =>
        rw [cond_false, wsucc i (by omega)]
        obtain ⟨r, hr, h⟩ := index_l s hs c n (i + 1) (by omega) (by omega)
        refine ⟨r, hr, ?_⟩
        rcases h with ⟨h3, h4⟩ | ⟨k, h3, h4, hk, h5, h6⟩
        · refine .inl ⟨h3, fun x hx => ?_⟩
          rw [List.drop_eq_getElem_cons hi] at hx
          rcases List.mem_cons.1 hx with rfl | hx
          · exact hq
          · exact h4 x hx
        · refine .inr ⟨k, h3, by omega, hk, h5, fun j hj h7 h8 => ?_⟩
          by_cases hji : j = i
          · subst hji; exact hq
          · exact h6 j hj (by omega) h8
    · have e1 : decide ((i : Int) < (s.length : Int)) = false := by simp; omega
      rw [e1, cond_false, List.drop_eq_nil_of_le (by omega)]
      exact ⟨-1, rfl, .inl ⟨rfl, by simp⟩⟩

/-- The loop of DeleteFunc: i elements are kept of the first j. -/
theorem delete_l (s : List SCurtail) (hs : s.length ≤ 900) (c : SCurtail) : ∀ (n i j : Nat) (o : List SCurtail), j ≤ s.length → s.length < n + j → i ≤ j → o.length = s.length → (∀ q, i ≤ q → j ≤ q → o[q]? = s[q]?) → o.take i = (s.take j).filter (fun x => !sEq x.Name c.Name) →
    slices_DeleteFunc_api_Curtail_api_Curtail_f1_22_l31 1000 c n (i : Int) (j : Int) o = some (s.filter (fun x => !sEq x.Name c.Name))
  | 0, i, j, o, h1, h2, _, _, _, _ => by omega
  | n + 1, i, j, o, h1, h2, h3, h4, h5, h6 => by
    simp only [slices_DeleteFunc_api_Curtail_api_Curtail_f1_22_l31, slices_DeleteFunc_api_Curtail_api_Curtail_f1_22_b31, chargenetlaw13_CurtailCancel_1]
    by_cases hj : j < s.length
    · have hjo : j < o.length := by omega
      have e1 : decide ((j : Int) < (o.length : Int)) = true := by simp; omega
      have hoj : o[j] = s[j] := by
        have := h5 j h3 (Nat.le_refl _)
        rw [List.getElem?_eq_getElem hjo, List.getElem?_eq_getElem hj] at this
        exact Option.some.inj this
      rw [e1, cond_true, guard_pos (by omega), getD_nat o _ j hjo, Option.bind_some, hoj]
      unfold slices_DeleteFunc_api_Curtail_api_Curtail_f1_22_p35
      have htk : (s.take (j + 1)).filter (fun x => !sEq x.Name c.Name) = (s.take j).filter (fun x => !sEq x.Name c.Name) ++ [s[j]].filter (fun x => !sEq x.Name c.Name) := by
        rw [List.take_succ_eq_append_getElem hj, List.filter_append]
      cases hq : sEq s[j].Name c.Name with
      | true =>
        simp only [Bool.not_true, cond_false]
        rw [wsucc j (by omega)]
        refine delete_l s hs c n i (j + 1) o (by omega) (by omega) (by omega) h4 (fun q q1 q2 => h5 q q1 (by omega)) ?_
        rw [htk, h6]; simp [hq]
      | false =>
        simp only [Bool.not_false, cond_true]
        rw [guard_pos (by omega), wsucc j (by omega), wsucc i (by omega), Int.toNat_natCast]
        have hio : i < o.length := by omega
        refine delete_l s hs c n (i + 1) (j + 1) (o.set i s[j]) (by omega) (by omega) (by omega) (by simpa using h4) (fun q q1 q2 => ?_) ?_
        · rw [List.getElem?_set_ne (by omega)]; exact h5 q (by omega) (by omega)
        · rw [List.take_succ_eq_append_getElem (by simpa using hio), List.take_set, List.set_eq_of_length_le (by rw [List.length_take]; omega), htk, h6]
          simp [hq]
    · have e1 : decide ((j : Int) < (o.length : Int)) = false := by simp; omega
      rw [e1, cond_false]
      unfold slices_DeleteFunc_api_Curtail_api_Curtail_f1_22_p9
      simp only [Int.toNat_natCast]
      have hl1 : (copyL o i (o.length - i) (List.replicate (o.length - i) dSCurtail)).length = o.length := copyL_len (by omega)
      rw [guard_pos (by omega), guard_pos (by omega), guard_pos (by omega)]
      have ht : (copyL o i (o.length - i) (List.replicate (o.length - i) dSCurtail)).take i = o.take i := by
        unfold copyL
        rw [List.append_assoc, List.take_append_of_le_length (by simp; omega), List.take_take, Nat.min_self]
      rw [ht, h6, List.take_of_length_le (by omega)]

theorem filter_all {α : Type} (p : α → Bool) (l : List α) (h : ∀ x ∈ l, p x = true) : l.filter p = l := List.filter_eq_self.2 h

theorem delete_eq (s : List SCurtail) (hs : s.length ≤ 900) (c : SCurtail) : slices_DeleteFunc_api_Curtail_api_Curtail_f1_22 1000 s c = some (s.filter (fun x => !sEq x.Name c.Name)) := by
  unfold slices_DeleteFunc_api_Curtail_api_Curtail_f1_22 slices_IndexFunc_api_Curtail_api_Curtail_f1_22
  obtain ⟨r, hr, h⟩ := index_l s hs c 1000 0 (by omega) (by omega)
  simp only [Int.natCast_zero] at hr
  rw [hr, Option.bind_some]
  rcases h with ⟨rfl, h⟩ | ⟨k, rfl, _, hk, h5, h6⟩
  · rw [List.drop_zero] at h
    rw [filter_all _ s (fun x hx => by simp [h x hx])]; rfl
  · have : decide ((k : Int) = -1) = false := decide_eq_false (by omega)
    rw [this, cond_false, wsucc k (by omega)]
    refine delete_l s hs c 1000 k (k + 1) s (by omega) (by omega) (by omega) rfl (fun _ _ _ => rfl) ?_
    rw [List.take_succ_eq_append_getElem hk, List.filter_append]
    have e1 : (s.take k).filter (fun x => !sEq x.Name c.Name) = s.take k := by
      refine filter_all _ _ (fun x hx => ?_)
      obtain ⟨j, hj, rfl⟩ := List.getElem_of_mem hx
      rw [List.length_take] at hj
      rw [List.getElem_take, h6 j (by omega) (by omega) (by omega)]; rfl
    rw [e1]; simp [h5]

theorem clone_eq (a : List SCurtail) (h : a.length ≤ 900) : slices_Clone_api_Curtail_api_Curtail_own 1000 a = some a := by
  unfold slices_Clone_api_Curtail_api_Curtail_own
  rw [guard_pos (by simp; omega)]; rfl

theorem plain_chargenetlaw13_CurtailCancel (a0 : List SCurtail) (a1 : SCurtail) (a2 : Int) (a3 : Int) (w0 : okVec okSCurtail a0) (w1 : okSCurtail a1) (w2 : (Lit.int .i64 a2).wf = true) (w3 : (Lit.int .i64 a3).wf = true) : ∃ F, chargenetlaw13_CurtailCancel F a0 a1 a2 a3 = some true := by
  refine ⟨1000, ?_⟩
  unfold chargenetlaw13_CurtailCancel
  rw [example_ok]
  by_cases h : (100 : Int) < (a0.length : Int)
  · simp [h]
  obtain ⟨q, hq, hi⟩ := build_eq a0 (by omega)
  have hlen := hi.len
  obtain ⟨c, hc⟩ : ∃ c, c = SCurtail.mk a1.Name a1.Version a1.Feeder a1.Span_From a1.Span_To a1.Total true := ⟨_, rfl⟩
  have hcc : c.Cancelled = true := by rw [hc]
  obtain ⟨r, h1, _, h2⟩ := put_both q hi c
  have hi2 := put_inv q hi c r h2
  have hlen2 := hi2.len
  rw [show decide ((100 : Int) < (a0.length : Int)) = false by simpa using h, cond_false, hq]
  simp only [Option.bind_some, Bool.not_true, cond_false]
  rw [← hc, h1]
  simp only [Option.bind_some]
  rcases h2 with ⟨h3, h4⟩ | ⟨h3, _, h4, h5⟩
  · rw [show decide (r.2 = 0) = false by simpa using h3, h4, equal_self q (by omega)]; rfl
  · obtain ⟨m, m1, m2, m3, _, m5, m6, m7⟩ := putS_shape q hi.srt c h5
    have hf : q.filter (fun x => !sEq x.Name c.Name) = q.take (pos c q) ++ q.drop m := by
      have hpre : (q.take (pos c q)).filter (fun x => !sEq x.Name c.Name) = q.take (pos c q) := filter_all _ _ (fun x hx => by rw [(sEq_false _ _).2 (sLt_ne (m5 x hx))]; rfl)
      have hpost : (q.drop m).filter (fun x => !sEq x.Name c.Name) = q.drop m := filter_all _ _ (fun x hx => by rw [(sEq_false _ _).2 (fun he => sLt_ne (m6 x hx) he.symm)]; rfl)
      rcases m7 with rfl | ⟨hlt, rfl, hn⟩
      · conv => lhs; rw [← List.take_append_drop (pos c q) q, List.filter_append, hpre, hpost]
      · conv => lhs; rw [← List.take_append_drop (pos c q) q, List.drop_eq_getElem_cons hlt, List.filter_append, hpre]
        rw [List.filter_cons_of_neg (by simp [(sEq_iff _ _).2 hn]), hpost]
    have hrf : r.1.filter (fun x => !sEq x.Name c.Name) = q.filter (fun x => !sEq x.Name c.Name) := by
      rw [hf, h4, m3, List.filter_append]
      rw [List.filter_cons_of_neg (by simp [(sEq_iff _ _).2 rfl])]
      congr 1
      · exact filter_all _ _ (fun x hx => by rw [(sEq_false _ _).2 (sLt_ne (m5 x hx))]; rfl)
      · exact filter_all _ _ (fun x hx => by rw [(sEq_false _ _).2 (fun he => sLt_ne (m6 x hx) he.symm)]; rfl)
    have hcan : ∀ x ∈ r.1, (!sEq x.Name c.Name) = false → x.Cancelled = true := by
      intro x hx hp
      rw [h4, m3] at hx
      have hn : sEq x.Name c.Name = true := by simpa using hp
      rcases List.mem_append.1 hx with hx | hx
      · exact absurd ((sEq_iff _ _).1 hn) (sLt_ne (m5 x hx))
      · rcases List.mem_cons.1 hx with rfl | hx
        · exact hcc
        · exact absurd ((sEq_iff _ _).1 hn).symm (sLt_ne (m6 x hx))
    have hat : ∀ f t, atS r.1 f t = atS (q.filter (fun x => !sEq x.Name c.Name)) f t := by
      intro f t
      unfold atS
      rw [fold_filter f t (fun x => !sEq x.Name c.Name) r.1 _ hcan, hrf]
    have hL1 : Lim13 r.1 := ⟨hi2.len, hi2.ok⟩
    have hL2 : Lim13 (q.filter (fun x => !sEq x.Name c.Name)) := ⟨Nat.le_trans (List.length_filter_le _ _) hi.len, fun x hx => hi.ok x ((List.mem_filter.1 hx).1)⟩
    have hfl := hL2.1
    obtain ⟨n1, k1, k2⟩ := next_eq r.1 hL1 a3
    obtain ⟨n2, k3, k4⟩ := next_eq _ hL2 a3
    have hchg : ∀ u, Chg r.1 u ↔ Chg (q.filter (fun x => !sEq x.Name c.Name)) u := by
      intro u
      unfold Chg
      simp only [hat]
    have k5 : IsNext (q.filter (fun x => !sEq x.Name c.Name)) a3 n1 := by
      unfold IsNext at k2 ⊢
      simp only [hchg] at k2
      exact k2
    have hnn := isNext_unique _ a3 n1 n2 k5 k4
    rw [show decide (r.2 = 0) = true by simpa using h3, clone_eq q (by omega)]
    simp only [Bool.not_true, cond_false, Option.bind_some]
    rw [delete_eq q (by omega) c]
    simp only [Option.bind_some]
    rw [at_eq r.1 (by omega), at_eq _ (by omega), k1, k3, hat, hnn]
    simp
end Go.Proofs.Ytcccjpkfifefaaa.M
