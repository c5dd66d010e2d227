/- Plain law SettleSpans: what is owed in two adjacent spans is what is owed in both together. -/
import Derived.Test.YtoncfkdgddfnlaaPlainN
namespace Go.Proofs.Ytoncfkdgddfnlaa.M
open Go Go.Proofs.Ytoncfkdgddfnlaa.E Go.Proofs.Ytoncfkdgddfnlaa.W
set_option linter.unusedVariables false
set_option linter.unusedSimpArgs false
theorem cond0 {b : Bool} {e : Int} {x : Option Int} (h : (bif b then some e else x) = some 0) (he : e ≠ 0) : b = false ∧ x = some 0 := by
 cases b
 ·exact ⟨rfl, h⟩
 ·exact absurd (Option.some.inj h) he
theorem dis_ok {d : SDispute} (h0 : disE d = 0) : 0 ≤ d.Granted ∧ d.Granted ≤ 36028797018963968 := by
 have h := dis_eq 1000 (by omega) d
 rw [h0] at h
 unfold dispute_Valid at h
 rw [id_eqF 1000 (by omega), id_eqF 1000 (by omega)] at h
 simp only [Option.bind_some] at h
 obtain ⟨_, h⟩ := cond0 h (by decide)
 obtain ⟨_, h⟩ := cond0 h (by decide)
 obtain ⟨_, h⟩ := cond0 h (by decide)
 obtain ⟨_, h⟩ := cond0 h (by decide)
 obtain ⟨_, h⟩ := cond0 h (by decide)
 obtain ⟨_, h⟩ := cond0 h (by decide)
 obtain ⟨_, h⟩ := cond0 h (by decide)
 obtain ⟨q1, h⟩ := cond0 h (by decide)
 obtain ⟨q2, h⟩ := cond0 h (by decide)
 obtain ⟨q3, h⟩ := cond0 h (by decide)
 have q1 := of_decide_eq_false q1
 have q2 := of_decide_eq_false q2
 have q3 := of_decide_eq_false q3
 omega
theorem firstD_ok : ∀ {ds : List SDispute}, firstD ds = 0 → ∀ d ∈ ds, disE d = 0
 | [], _, d, h => by cases h
 | e :: ds, h0, d, h => by
  simp only [firstD] at h0
  by_cases hq : disE e = 0
  ·rw [decide_eq_true hq] at h0
   rcases List.mem_cons.1 h with rfl | h
   ·exact hq
   ·exact firstD_ok h0 d h
  ·rw [decide_eq_false hq] at h0
   exact absurd h0 hq
theorem amtD_small {ds : List SDispute} (hd : ∀ d ∈ ds, disE d = 0) {c : SCDR} (h : -1099511627776 ≤ c.Total ∧ c.Total ≤ 1099511627776) : -72057594037927936 ≤ amtD ds c ∧ amtD ds c ≤ 72057594037927936 := by
 unfold amtD amtO
 split
 ·rename_i d hf
  have := dis_ok (hd d (List.mem_of_find?_eq_some hf))
  rw [Go.IntWalk.i64_in _ (by omega)]; omega
 ·omega
theorem amts_sum (l : List SCDR) (ds : List SDispute) (a b cur : ByteArray) (s : SSpan) : (amts l ds a b cur s).sum = (l.map (fun c => if sel a b cur s c then amtD ds c else 0)).sum := by
 induction l with
 | nil => rfl
 | cons c l ih =>
  unfold amts at ih ⊢
  rw [List.filter_cons, List.map_cons, List.sum_cons, ← ih]
  cases sel a b cur s c <;> simp
theorem map_bound {α : Type} (f : α → Int) (B : Int) : ∀ (l : List α), (∀ x ∈ l, -B ≤ f x ∧ f x ≤ B) → -(B * (l.length : Int)) ≤ (l.map f).sum ∧ (l.map f).sum ≤ B * (l.length : Int)
 | [], _ => by simp
 | x :: l, h => by
  have h1 := h x List.mem_cons_self
  have h2 := map_bound f B l (fun y hy => h y (List.mem_cons_of_mem _ hy))
  have e : B * ((l.length + 1 : Nat) : Int) = B * (l.length : Int) + B := by
   rw [Int.natCast_add, Int.mul_add]; simp
  rw [List.map_cons, List.sum_cons, List.length_cons, e]
  omega
theorem split_sum {α : Type} (f g h : α → Int) : ∀ (l : List α), (∀ x ∈ l, f x = g x + h x) → (l.map f).sum = (l.map g).sum + (l.map h).sum
 | [], _ => rfl
 | x :: l, hh => by
  have h1 := hh x List.mem_cons_self
  have h2 := split_sum f g h l (fun y hy => hh y (List.mem_cons_of_mem _ hy))
  rw [List.map_cons, List.map_cons, List.map_cons, List.sum_cons, List.sum_cons, List.sum_cons]
  omega
theorem amts_bound {l : List SCDR} {ds : List SDispute} (hd : ∀ d ∈ ds, disE d = 0) (hl : l.length ≤ 20) (h : ∀ c ∈ l, -1099511627776 ≤ c.Total ∧ c.Total ≤ 1099511627776) (a b cur : ByteArray) (s : SSpan) : -1441151880758558720 ≤ (amts l ds a b cur s).sum ∧ (amts l ds a b cur s).sum ≤ 1441151880758558720 := by
 rw [amts_sum]
 have := map_bound (fun c => if sel a b cur s c then amtD ds c else 0) 72057594037927936 l (fun c hc => by
  have := amtD_small hd (h c hc)
  split <;> omega)
 omega
theorem tot_l (F : Nat) (c : SCase) (at_ : Int) (hl : c.CDRs.length ≤ 900) : ∀ (n i : Nat), i ≤ c.CDRs.length → c.CDRs.length < n + i → chargenetlaw49_SettleSpans_l32 F c at_ n (i : Int) = some true ∨ (chargenetlaw49_SettleSpans_l32 F c at_ n (i : Int) = chargenetlaw49_SettleSpans_p22 F c at_ ∧ ∀ x ∈ c.CDRs.drop i, -1099511627776 ≤ x.Total ∧ x.Total ≤ 1099511627776)
 | 0, i, h1, h2 => by omega
 | n + 1, i, h1, h2 => by
  simp only [chargenetlaw49_SettleSpans_l32, chargenetlaw49_SettleSpans_b32]
  by_cases hi : i < c.CDRs.length
  ·rw [show decide ((i : Int) < (c.CDRs.length : Int)) = true by simpa using hi, cond_true, guard_pos (by omega), getD_nat c.CDRs _ i hi, wsucc i (by omega), List.drop_eq_getElem_cons hi]
   by_cases q1 : (1099511627776 : Int) < c.CDRs[i].Total
   ·rw [decide_eq_true q1]; exact .inl rfl
   ·rw [decide_eq_false q1, cond_false]
    by_cases q2 : c.CDRs[i].Total < -1099511627776
    ·rw [decide_eq_true q2]; exact .inl rfl
    ·rw [decide_eq_false q2, cond_false]
     rcases tot_l F c at_ hl n (i + 1) (by omega) (by omega) with e | ⟨e, h⟩
     ·exact .inl e
     ·refine .inr ⟨e, fun x hx => ?_⟩
      rcases List.mem_cons.1 hx with rfl | hx
      ·omega
      ·exact h x hx
  ·rw [show decide ((i : Int) < (c.CDRs.length : Int)) = false from decide_eq_false (by omega), cond_false, List.drop_eq_nil_of_le (by omega)]
   exact .inr ⟨rfl, fun x hx => by cases hx⟩
theorem owedE_ok {l : List SCDR} {ds : List SDispute} {a b cur : ByteArray} {s : SSpan} (h : chkE l ds a b cur s = 0) (hb : -9223372036854775808 ≤ (amts l ds a b cur s).sum ∧ (amts l ds a b cur s).sum ≤ 9223372036854775807) : owedE l ds a b cur s = ((amts l ds a b cur s).sum, 0) := by
 unfold owedE sumE
 rw [h, if_pos hb]; rfl
theorem chk_ok {l : List SCDR} {ds : List SDispute} {a b cur : ByteArray} {s : SSpan} (h : chkE l ds a b cur s = 0) : firstC l = 0 ∧ firstD ds = 0 ∧ parE a b = 0 ∧ cuB cur = true ∧ 0 ≤ s.From ∧ s.From ≤ s.To ∧ s.To ≤ 268435456 := by
 unfold chkE at h
 by_cases q1 : firstC l = 0
 ·rw [decide_eq_true q1] at h
  by_cases q2 : firstD ds = 0
  ·rw [decide_eq_true q2] at h
   have h : askE a b cur s = 0 := h
   unfold askE at h
   by_cases q3 : parE a b = 0
   ·rw [decide_eq_true q3] at h
    rcases Bool.eq_false_or_eq_true (cuB cur) with q4 | q4
    ·rw [q4] at h
     by_cases q5 : s.From < 0
     ·rw [decide_eq_true q5] at h; exact absurd (show (2 : Int) = 0 from h) (by decide)
     ·by_cases q6 : s.To < s.From
      ·rw [decide_eq_false q5, decide_eq_true q6] at h; exact absurd (show (2 : Int) = 0 from h) (by decide)
      ·by_cases q7 : 268435456 < s.To
       ·rw [decide_eq_false q5, decide_eq_false q6, decide_eq_true q7] at h; exact absurd (show (2 : Int) = 0 from h) (by decide)
       ·exact ⟨q1, q2, q3, q4, by omega, by omega, by omega⟩
    ·rw [q4] at h; exact absurd (show (21 : Int) = 0 from h) (by decide)
   ·rw [decide_eq_false q3] at h; exact absurd h q3
  ·rw [decide_eq_false q2] at h; exact absurd h q2
 ·rw [decide_eq_false q1] at h; exact absurd h q1
theorem chk_of {l : List SCDR} {ds : List SDispute} {a b cur : ByteArray} {s : SSpan} (h1 : firstC l = 0) (h2 : firstD ds = 0) (h3 : parE a b = 0) (h4 : cuB cur = true) (h5 : 0 ≤ s.From) (h6 : s.From ≤ s.To) (h7 : s.To ≤ 268435456) : chkE l ds a b cur s = 0 := by
 unfold chkE askE
 rw [h1, h2, h3, h4, decide_eq_false (show ¬ s.From < 0 by omega), decide_eq_false (show ¬ s.To < s.From by omega), decide_eq_false (show ¬ 268435456 < s.To by omega)]
 rfl
theorem sel_split {ds : List SDispute} {a b cur : ByteArray} {f t u : Int} (h1 : f ≤ t) (h2 : t ≤ u) (c : SCDR) : (if sel a b cur (SSpan.mk f u) c then amtD ds c else 0) = (if sel a b cur (SSpan.mk f t) c then amtD ds c else 0) + (if sel a b cur (SSpan.mk t u) c then amtD ds c else 0) := by
 unfold sel
 cases sEq c.Operator a <;> try rfl
 cases sEq c.Provider b <;> try rfl
 cases sEq c.Currency cur <;> try rfl
 simp only [Bool.true_and, Bool.and_eq_true, Bool.not_eq_true', decide_eq_false_iff_not]
 by_cases q1 : c.End < f
 ·rw [if_neg (by omega), if_neg (by omega), if_neg (by omega)]; rfl
 ·by_cases q2 : c.End < t
  ·rw [if_pos (by omega), if_pos (by omega), if_neg (by omega)]; omega
  ·by_cases q3 : c.End < u
   ·rw [if_pos (by omega), if_neg (by omega), if_pos (by omega)]; omega
   ·rw [if_neg (by omega), if_neg (by omega), if_neg (by omega)]; rfl
theorem plain_chargenetlaw49_SettleSpans (a0 : SCase) (a1 : Int) (w0 : okSCase a0) (w1 : (Lit.int .i64 a1).wf = true) : ∃ F, chargenetlaw49_SettleSpans F a0 a1 = some true := by
 refine ⟨bigF a0, ?_⟩
 have hF : 1000 ≤ bigF a0 := by unfold bigF; omega
 unfold chargenetlaw49_SettleSpans
 rcases small_eq a0 w0.1.1 (bigF a0) (by unfold bigF; omega) with e | ⟨e, hs⟩
 ·rw [e, Option.bind_some, Bool.not_false, cond_true, example_F _ hF]; rfl
 ·have h1 := hs.l
  have h2 := hs.ds
  have ht0 : ∀ c ∈ a0.CDRs, -9223372036854775808 ≤ c.Total ∧ c.Total ≤ 9223372036854775807 := fun c hc => by
   obtain ⟨_, _, _, _, _, _, _, _, _, _, _, h, _⟩ := w0.1.2 c hc
   exact wfT h
  rw [e, Option.bind_some, Bool.not_true, cond_false]
  have htl := tot_l (bigF a0) a0 a1 (by omega) (bigF a0) 0 (by omega) (by omega)
  simp only [Int.natCast_zero, List.drop_zero] at htl
  rcases htl with et | ⟨et, ht⟩
  ·exact et
  ·rw [et]
   unfold chargenetlaw49_SettleSpans_p22
   by_cases q1 : a1 < a0.Span_From
   ·rw [decide_eq_true q1]; rfl
   rw [decide_eq_false q1, cond_false]
   by_cases q2 : a0.Span_To < a1
   ·rw [decide_eq_true q2]; rfl
   rw [decide_eq_false q2, cond_false]
   rw [owed_eq _ hF _ (by omega) hs.it ht0 _ (by omega), owed_eq _ hF _ (by omega) hs.it ht0 _ (by omega), owed_eq _ hF _ (by omega) hs.it ht0 _ (by omega)]
   simp only [Option.bind_some]
   rw [example_F _ hF]
   by_cases hc : chkE a0.CDRs a0.Disputes a0.A a0.B a0.Currency (SSpan.mk a0.Span_From a0.Span_To) = 0
   ·obtain ⟨c1, c2, c3, c4, c5, c6, c7⟩ := chk_ok hc
    have hd := firstD_ok c2
    have k1 : chkE a0.CDRs a0.Disputes a0.A a0.B a0.Currency (SSpan.mk a0.Span_From a1) = 0 := chk_of c1 c2 c3 c4 c5 (by simp only; omega) (by simp only at c7 ⊢; omega)
    have k2 : chkE a0.CDRs a0.Disputes a0.A a0.B a0.Currency (SSpan.mk a1 a0.Span_To) = 0 := chk_of c1 c2 c3 c4 (by simp only at c5 ⊢; omega) (by simp only; omega) c7
    have b0 := amts_bound hd h1 ht a0.A a0.B a0.Currency (SSpan.mk a0.Span_From a0.Span_To)
    have b1 := amts_bound hd h1 ht a0.A a0.B a0.Currency (SSpan.mk a0.Span_From a1)
    have b2 := amts_bound hd h1 ht a0.A a0.B a0.Currency (SSpan.mk a1 a0.Span_To)
    have hsum : (amts a0.CDRs a0.Disputes a0.A a0.B a0.Currency (SSpan.mk a0.Span_From a0.Span_To)).sum = (amts a0.CDRs a0.Disputes a0.A a0.B a0.Currency (SSpan.mk a0.Span_From a1)).sum + (amts a0.CDRs a0.Disputes a0.A a0.B a0.Currency (SSpan.mk a1 a0.Span_To)).sum := by
     rw [amts_sum, amts_sum, amts_sum]
     exact split_sum _ _ _ _ (fun x _ => sel_split (by omega) (by omega) x)
    rw [owedE_ok hc (by omega), owedE_ok k1 (by omega), owedE_ok k2 (by omega)]
    simp only [decide_true, Bool.not_true, cond_false, cond_true]
    rw [Go.IntWalk.i64_in _ (by omega), hsum]
    simp
   ·have hne : (owedE a0.CDRs a0.Disputes a0.A a0.B a0.Currency (SSpan.mk a0.Span_From a0.Span_To)).2 ≠ 0 := by
     unfold owedE
     rw [decide_eq_false hc]; exact hc
    rw [decide_eq_false hne]; rfl
end Go.Proofs.Ytoncfkdgddfnlaa.M
