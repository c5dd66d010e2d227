/- Plain law SettleCredits: records and their credits balance each other. -/
import Derived.Test.YtoncfkdgddfnlaaPlainN
namespace Go.Proofs.Ytoncfkdgddfnlaa.M
open Go Go.Proofs.Ytoncfkdgddfnlaa.E Go.Proofs.Ytoncfkdgddfnlaa.W
set_option linter.unusedVariables false
set_option linter.unusedSimpArgs false
def negI (x : SItem) : SItem := SItem.mk x.Kind (IntKind.wrap .i64 (0 - x.Price)) x.Tax x.Quantity (IntKind.wrap .i64 (0 - x.Net)) (IntKind.wrap .i64 (0 - x.Vat)) (IntKind.wrap .i64 (0 - x.Gross))
theorem okItem_iff (x : SItem) : okItem x = true ↔ ((1 ≤ x.Kind ∧ x.Kind ≤ 4) ∧ (0 ≤ x.Tax ∧ x.Tax ≤ 10000) ∧ ((-36028797018963968 ≤ x.Net ∧ x.Net ≤ 36028797018963968) ∧ (-36028797018963968 ≤ x.Vat ∧ x.Vat ≤ 36028797018963968) ∧ (-36028797018963968 ≤ x.Price ∧ x.Price ≤ 36028797018963968)) ∧ (0 ≤ x.Quantity ∧ x.Quantity ≤ 36028797018963968) ∧ x.Gross = IntKind.wrap .i64 (x.Net + x.Vat)) := by
 unfold okItem btw
 simp only [Bool.and_eq_true, decide_eq_true_eq]
theorem ok_gross {x : SItem} (h : okItem x = true) : x.Gross = x.Net + x.Vat ∧ -72057594037927936 ≤ x.Gross ∧ x.Gross ≤ 72057594037927936 := by
 obtain ⟨_, _, ⟨h1, h2, _⟩, _, h3⟩ := (okItem_iff x).1 h
 rw [Go.IntWalk.i64_in _ (by omega)] at h3
 omega
theorem neg_ok {x : SItem} (h : okItem x = true) : okItem (negI x) = true ∧ (negI x).Gross = -x.Gross := by
 obtain ⟨g1, g2, g3⟩ := ok_gross h
 obtain ⟨h1, h2, ⟨h3, h4, h5⟩, h6, h7⟩ := (okItem_iff x).1 h
 have e1 : IntKind.wrap .i64 (0 - x.Net) = -x.Net := by rw [Go.IntWalk.i64_in _ (by omega)]; omega
 have e2 : IntKind.wrap .i64 (0 - x.Vat) = -x.Vat := by rw [Go.IntWalk.i64_in _ (by omega)]; omega
 have e3 : IntKind.wrap .i64 (0 - x.Price) = -x.Price := by rw [Go.IntWalk.i64_in _ (by omega)]; omega
 have e4 : IntKind.wrap .i64 (0 - x.Gross) = -x.Gross := by rw [Go.IntWalk.i64_in _ (by omega)]; omega
 refine ⟨(okItem_iff _).2 ?_, e4⟩
 unfold negI
 simp only [e1, e2, e3, e4]
 rw [Go.IntWalk.i64_in _ (by omega)]
 exact ⟨h1, h2, ⟨by omega, by omega, by omega⟩, h6, by omega⟩
theorem it_ok (c : SCDR) : ∀ (l : List SItem) (t : Int), itE c t l = 0 → ∀ x ∈ l, okItem x = true
 | [], t, _, x, h => by cases h
 | y :: l, t, h, x, hx => by
  simp only [itE] at h
  rcases Bool.eq_false_or_eq_true (okItem y) with hq | hq
  ·rw [hq] at h
   rcases List.mem_cons.1 hx with rfl | hx
   ·exact hq
   ·exact it_ok c l _ h x hx
  ·rw [hq] at h; exact absurd (show (1 : Int) = 0 from h) (by decide)
theorem it_sum (c : SCDR) : ∀ (l : List SItem) (t : Int), (∀ x ∈ l, okItem x = true) → -4611686018427387904 ≤ t - 72057594037927936 * (l.length : Int) ∧ t + 72057594037927936 * (l.length : Int) ≤ 4611686018427387904 → itE c t l = bif !decide (c.Total = t + (l.map (·.Gross)).sum) then 1 else 0
 | [], t, _, _ => by simp [itE]
 | y :: l, t, h, hb => by
  obtain ⟨_, g1, g2⟩ := ok_gross (h y List.mem_cons_self)
  have e : 72057594037927936 * (((y :: l).length : Nat) : Int) = 72057594037927936 * (l.length : Int) + 72057594037927936 := by rw [List.length_cons]; omega
  rw [e] at hb
  simp only [itE]
  rw [h y List.mem_cons_self, Bool.not_true, cond_false, Go.IntWalk.i64_in _ (by omega), it_sum c l _ (fun x hx => h x (List.mem_cons_of_mem _ hx)) (by omega), List.map_cons, List.sum_cons, Int.add_assoc]
theorem gross_bound : ∀ (l : List SItem), (∀ x ∈ l, okItem x = true) → -(72057594037927936 * (l.length : Int)) ≤ (l.map (·.Gross)).sum ∧ (l.map (·.Gross)).sum ≤ 72057594037927936 * (l.length : Int)
 | [], _ => by simp
 | y :: l, h => by
  obtain ⟨_, g1, g2⟩ := ok_gross (h y List.mem_cons_self)
  have ih := gross_bound l (fun x hx => h x (List.mem_cons_of_mem _ hx))
  rw [List.map_cons, List.sum_cons, List.length_cons]
  omega
theorem neg_sum : ∀ (l : List SItem), (∀ x ∈ l, okItem x = true) → ((l.map negI).map (·.Gross)).sum = -(l.map (·.Gross)).sum
 | [], _ => by simp
 | y :: l, h => by
  have ih := neg_sum l (fun x hx => h x (List.mem_cons_of_mem _ hx))
  have hy := (neg_ok (h y List.mem_cons_self)).2
  simp only [List.map_cons, List.sum_cons] at ih ⊢
  rw [ih, hy]; omega
theorem negate_l (l : List SItem) (hl : l.length ≤ 100) : ∀ (n i : Nat) (o : List SItem), i ≤ l.length → l.length < n + i → o.length ≤ i → chargenetref43_Negate_l11 l n (i : Int) o = some (o ++ (l.drop i).map negI)
 | 0, i, o, h1, h2, _ => by omega
 | n + 1, i, o, h1, h2, ho => by
  simp only [chargenetref43_Negate_l11, chargenetref43_Negate_b11]
  by_cases hi : i < l.length
  ·rw [show decide ((i : Int) < (l.length : Int)) = true by simpa using hi, cond_true, guard_pos (by omega), getD_nat l _ i hi, guard_pos (by simp; omega), wsucc i (by omega), negate_l l hl n (i + 1) _ (by omega) (by omega) (by simp; omega), List.drop_eq_getElem_cons hi, List.map_cons, List.append_assoc]
   rfl
  ·rw [show decide ((i : Int) < (l.length : Int)) = false from decide_eq_false (by omega), cond_false, List.drop_eq_nil_of_le (by omega)]
   simp [chargenetref43_Negate_p2]
theorem negate_eq (F : Nat) (hF : 1000 ≤ F) (l : List SItem) (hl : l.length ≤ 100) : chargenetref43_Negate F l = some (l.map negI) := by
 unfold chargenetref43_Negate
 have h := negate_l l hl F 0 [] (by omega) (by omega) (by simp)
 simpa using h
theorem cdr_ok {c : SCDR} (h : cdrE c = 0) : (idB c.ID && (idB c.Operator && (idB c.Provider && (idB c.Session && idB c.Tariff)))) = true ∧ sEq c.Operator c.Provider = false ∧ rngB c = true ∧ cuB c.Currency = true ∧ c.Items.length ≤ 32 ∧ itE c 0 c.Items = 0 ∧ refE c = 0 := by
 unfold cdrE at h
 rcases (Bool.eq_false_or_eq_true (idB c.ID && (idB c.Operator && (idB c.Provider && (idB c.Session && idB c.Tariff))))).symm with q1 | q1
 ·rw [q1] at h; exact absurd (show (4 : Int) = 0 from h) (by decide)
 rcases Bool.eq_false_or_eq_true (sEq c.Operator c.Provider) with q2 | q2
 ·rw [q1, q2] at h; exact absurd (show (1 : Int) = 0 from h) (by decide)
 rcases (Bool.eq_false_or_eq_true (rngB c)).symm with q3 | q3
 ·rw [q1, q2, q3] at h; exact absurd (show (2 : Int) = 0 from h) (by decide)
 rcases (Bool.eq_false_or_eq_true (cuB c.Currency)).symm with q4 | q4
 ·rw [q1, q2, q3, q4] at h; exact absurd (show (21 : Int) = 0 from h) (by decide)
 by_cases q5 : 32 < (c.Items.length : Int)
 ·rw [q1, q2, q3, q4, decide_eq_true q5] at h; exact absurd (show (3 : Int) = 0 from h) (by decide)
 rw [q1, q2, q3, q4, decide_eq_false q5] at h
 by_cases q6 : itE c 0 c.Items = 0
 ·rw [decide_eq_true q6] at h
  exact ⟨q1, q2, q3, q4, by omega, q6, h⟩
 ·rw [decide_eq_false q6] at h; exact absurd h q6
theorem cdr_of {c : SCDR} (q1 : (idB c.ID && (idB c.Operator && (idB c.Provider && (idB c.Session && idB c.Tariff)))) = true) (q2 : sEq c.Operator c.Provider = false) (q3 : rngB c = true) (q4 : cuB c.Currency = true) (q5 : c.Items.length ≤ 32) (q6 : itE c 0 c.Items = 0) (q7 : refE c = 0) : cdrE c = 0 := by
 unfold cdrE
 rw [q1, q2, q3, q4, decide_eq_false (by omega), q6, q7]; rfl
def crd : ByteArray := ByteArray.mk #[99, 114, 101, 100, 105, 116]
theorem crd_ok : idB crd = true := by
 have h : chargenetref01_Valid 1000 crd = some true := by decide +kernel
 rw [id_ref] at h
 exact Option.some.inj h
def credit (x : SCDR) : SCDR := SCDR.mk crd x.Operator x.Provider x.Session x.Version x.Start x.End x.Energy x.Tariff x.Currency (x.Items.map negI) (IntKind.wrap .i64 (0 - x.Total)) true x.ID
theorem total_is {x : SCDR} (h : cdrE x = 0) : x.Total = (x.Items.map (·.Gross)).sum ∧ -2305843009213693952 ≤ x.Total ∧ x.Total ≤ 2305843009213693952 := by
 obtain ⟨_, _, _, _, h5, h6, _⟩ := cdr_ok h
 have hok := it_ok x x.Items 0 h6
 rw [it_sum x x.Items 0 hok (by omega)] at h6
 have hb := gross_bound x.Items hok
 by_cases q : x.Total = 0 + (x.Items.map (·.Gross)).sum
 ·omega
 ·rw [decide_eq_false q] at h6; exact absurd (show (1 : Int) = 0 from h6) (by decide)
theorem credit_ok {x : SCDR} (h : cdrE x = 0) (hne : sEq crd x.ID = false) : cdrE (credit x) = 0 ∧ (credit x).Total = -x.Total := by
 obtain ⟨t1, t2, t3⟩ := total_is h
 obtain ⟨h1, h2, h3, h4, h5, h6, _⟩ := cdr_ok h
 have hok := it_ok x x.Items 0 h6
 have et : (credit x).Total = -x.Total := by
  show IntKind.wrap .i64 (0 - x.Total) = _
  rw [Go.IntWalk.i64_in _ (by omega)]; omega
 refine ⟨cdr_of ?_ h2 h3 h4 ?_ ?_ ?_, et⟩
 ·show (idB crd && (idB x.Operator && (idB x.Provider && (idB x.Session && idB x.Tariff)))) = true
  rw [crd_ok, Bool.true_and]
  rw [Bool.and_eq_true] at h1
  exact h1.2
 ·show (x.Items.map negI).length ≤ 32
  rw [List.length_map]; exact h5
 ·show itE (credit x) 0 (x.Items.map negI) = 0
  have hok2 : ∀ y ∈ x.Items.map negI, okItem y = true := fun y hy => by
   obtain ⟨z, hz, rfl⟩ := List.mem_map.1 hy
   exact (neg_ok (hok z hz)).1
  rw [it_sum _ _ 0 hok2 (by rw [List.length_map]; omega), neg_sum x.Items hok, et, t1]
  rw [decide_eq_true (by omega)]; rfl
 ·show (bif !true then (bif !(sEq x.ID ByteArray.empty) then (1 : Int) else 0) else bif !(idB x.ID) then 4 else bif sEq x.ID crd then 1 else 0) = 0
  rw [Bool.and_eq_true] at h1
  rw [h1.1, sEq_comm x.ID crd, hne]; rfl
theorem Credit_eq (F : Nat) (hF : 1000 ≤ F) (x : SCDR) (hx : cdrE x = 0) (hc : x.Credit = false) (hs : x.Currency.size < F ∧ x.Currency.size ≤ 9223372036854775807) : ∃ y e, chargenetref46_Credit F x crd = some (y, e) ∧ (e = 0 → y = credit x ∧ sEq crd x.ID = false) := by
 obtain ⟨_, _, _, _, h5, _, _⟩ := cdr_ok hx
 unfold chargenetref46_Credit
 rw [ref_cdr_eq F hF x (by omega) hs.1 hs.2, hx, hc, id_refF F hF, crd_ok, negate_eq F hF _ (by omega)]
 simp only [Option.bind_some, decide_true, Bool.not_true, cond_false]
 rcases Bool.eq_false_or_eq_true (sEq crd x.ID) with q | q
 ·rw [q]; exact ⟨_, _, rfl, fun h => absurd h (by decide)⟩
 ·rw [q]; exact ⟨_, _, rfl, fun _ => ⟨rfl, rfl⟩⟩
structure Pairs (a b cur : ByteArray) (s : SSpan) (o : List SCDR) : Prop where
 ok : ∀ c ∈ o, cdrE c = 0
 sum : (amts o [] a b cur s).sum = 0
theorem amts_append (o o' : List SCDR) (ds : List SDispute) (a b cur : ByteArray) (s : SSpan) : (amts (o ++ o') ds a b cur s).sum = (amts o ds a b cur s).sum + (amts o' ds a b cur s).sum := by
 unfold amts
 rw [List.filter_append, List.map_append, List.sum_append]
theorem Pairs.add {a b cur : ByteArray} {s : SSpan} {o : List SCDR} (h : Pairs a b cur s o) {x : SCDR} (hx : cdrE x = 0) (hne : sEq crd x.ID = false) : Pairs a b cur s (o ++ [x, credit x]) := by
 obtain ⟨c1, c2⟩ := credit_ok hx hne
 refine ⟨fun c hc => ?_, ?_⟩
 ·rcases List.mem_append.1 hc with hc | hc
  ·exact h.ok c hc
  ·rcases List.mem_cons.1 hc with rfl | hc
   ·exact hx
   ·rcases List.mem_cons.1 hc with rfl | hc
    ·exact c1
    ·cases hc
 ·rw [amts_append, h.sum]
  have e : sel a b cur s (credit x) = sel a b cur s x := rfl
  unfold amts
  rw [List.filter_cons, List.filter_cons, e]
  have d1 : amtD [] x = x.Total := rfl
  have d2 : amtD [] (credit x) = -x.Total := c2
  cases sel a b cur s x
  ·rfl
  ·simp [d1, d2]; omega
theorem firstC_of : ∀ {o : List SCDR}, (∀ c ∈ o, cdrE c = 0) → firstC o = 0
 | [], _ => rfl
 | c :: o, h => by
  simp only [firstC]
  rw [h c List.mem_cons_self, firstC_of (fun d hd => h d (List.mem_cons_of_mem _ hd))]; rfl
theorem owed_zero {o : List SCDR} {a b cur : ByteArray} {s : SSpan} (h : Pairs a b cur s o) (hask : askE a b cur s = 0) : owedE o [] a b cur s = (0, 0) := by
 unfold owedE chkE
 rw [firstC_of h.ok, hask, h.sum]; rfl
theorem ask1 : askE (ByteArray.mk #[65]) (ByteArray.mk #[66]) (ByteArray.mk #[69, 85, 82]) (SSpan.mk 0 268435456) = 0 := by
 have h := chk_p10 1000 (by omega) (ByteArray.mk #[65]) (ByteArray.mk #[66]) (ByteArray.mk #[69, 85, 82]) (SSpan.mk 0 268435456)
 have h2 : settle_check_p10 1000 (ByteArray.mk #[65]) (ByteArray.mk #[66]) (ByteArray.mk #[69, 85, 82]) (SSpan.mk 0 268435456) = some 0 := by rfl
 rw [h2] at h
 exact (Option.some.inj h).symm
theorem ask2 : askE (ByteArray.mk #[66]) (ByteArray.mk #[65]) (ByteArray.mk #[69, 85, 82]) (SSpan.mk 0 268435456) = 0 := by
 have h := chk_p10 1000 (by omega) (ByteArray.mk #[66]) (ByteArray.mk #[65]) (ByteArray.mk #[69, 85, 82]) (SSpan.mk 0 268435456)
 have h2 : settle_check_p10 1000 (ByteArray.mk #[66]) (ByteArray.mk #[65]) (ByteArray.mk #[69, 85, 82]) (SSpan.mk 0 268435456) = some 0 := by rfl
 rw [h2] at h
 exact (Option.some.inj h).symm
theorem bal0 (cur a b : ByteArray) : settle_Balance_p12 cur a b 0 0 = some (SBalance.mk a b cur 0, 0) := by rfl
theorem p17_eq (F : Nat) (hF : 1000 ≤ F) (o : List SCDR) (hl : o.length ≤ 100) (h1 : Pairs (ByteArray.mk #[65]) (ByteArray.mk #[66]) (ByteArray.mk #[69, 85, 82]) (SSpan.mk 0 268435456) o) (h2 : Pairs (ByteArray.mk #[66]) (ByteArray.mk #[65]) (ByteArray.mk #[69, 85, 82]) (SSpan.mk 0 268435456) o) : chargenetlaw49_SettleCredits_p17 F o = some true := by
 have hit : ∀ c ∈ o, c.Items.length ≤ 40 := fun c hc => by
  obtain ⟨_, _, _, _, h5, _, _⟩ := cdr_ok (h1.ok c hc)
  omega
 have ht : ∀ c ∈ o, -9223372036854775808 ≤ c.Total ∧ c.Total ≤ 9223372036854775807 := fun c hc => by
  have := total_is (h1.ok c hc)
  omega
 unfold chargenetlaw49_SettleCredits_p17 settle_Balance
 rw [owed_eq F hF o hl hit ht [] (by simp), owed_eq F hF o hl hit ht [] (by simp), owed_zero h1 ask1, owed_zero h2 ask2, example_F F hF]
 rfl
theorem loop_l (c0 : SCase) (F : Nat) (hF : 1000 ≤ F) (hl : c0.CDRs.length ≤ 10) (hit : ∀ x ∈ c0.CDRs, x.Items.length ≤ 40) (hs : ∀ x ∈ c0.CDRs, x.Currency.size < F ∧ x.Currency.size ≤ 9223372036854775807) : ∀ (n i : Nat) (o : List SCDR), i ≤ c0.CDRs.length → c0.CDRs.length < n + i → o.length ≤ 2 * i →
  Pairs (ByteArray.mk #[65]) (ByteArray.mk #[66]) (ByteArray.mk #[69, 85, 82]) (SSpan.mk 0 268435456) o → Pairs (ByteArray.mk #[66]) (ByteArray.mk #[65]) (ByteArray.mk #[69, 85, 82]) (SSpan.mk 0 268435456) o → chargenetlaw49_SettleCredits_l44 F c0 n (i : Int) o = some true
 | 0, i, o, h1, h2, _, _, _ => by omega
 | n + 1, i, o, h1, h2, ho, p1, p2 => by
  simp only [chargenetlaw49_SettleCredits_l44, chargenetlaw49_SettleCredits_b44, chargenetlaw49_SettleCredits_p47]
  by_cases hi : i < c0.CDRs.length
  ·have hm := List.getElem_mem hi
   have hskip := loop_l c0 F hF hl hit hs n (i + 1) o (by omega) (by omega) (by omega) p1 p2
   rw [show decide ((i : Int) < (c0.CDRs.length : Int)) = true by simpa using hi, cond_true, guard_pos (by omega), getD_nat c0.CDRs _ i hi, ref_cdr_eq F hF _ (hit _ hm) (hs _ hm).1 (hs _ hm).2, Option.bind_some, wsucc i (by omega), hskip]
   by_cases q1 : cdrE c0.CDRs[i] = 0
   ·rw [decide_eq_true q1, Bool.not_true, cond_false]
    rcases Bool.eq_false_or_eq_true c0.CDRs[i].Credit with q2 | q2
    ·rw [q2, cond_true]
    ·rw [q2, cond_false]
     obtain ⟨y, e, hy, he⟩ := Credit_eq F hF _ q1 q2 (hs _ hm)
     have hy' : chargenetref46_Credit F c0.CDRs[i] (ByteArray.mk #[99, 114, 101, 100, 105, 116]) = some (y, e) := hy
     rw [hy', Option.bind_some]
     by_cases q3 : e = 0
     ·obtain ⟨e1, e2⟩ := he q3
      rw [decide_eq_true q3, cond_true, guard_pos (by simp; omega), e1]
      exact loop_l c0 F hF hl hit hs n (i + 1) (o ++ [c0.CDRs[i], credit c0.CDRs[i]]) (by omega) (by omega) (by simp; omega) (p1.add q1 e2) (p2.add q1 e2)
     ·rw [decide_eq_false q3, cond_false]
   ·rw [decide_eq_false q1, Bool.not_false, cond_true]
  ·rw [show decide ((i : Int) < (c0.CDRs.length : Int)) = false from decide_eq_false (by omega), cond_false]
   exact p17_eq F hF o (by omega) p1 p2
theorem plain_chargenetlaw49_SettleCredits (a0 : SCase) (w0 : okSCase a0) : ∃ F, chargenetlaw49_SettleCredits F a0 = some true := by
 refine ⟨bigF a0, ?_⟩
 have hF : 1000 ≤ bigF a0 := by unfold bigF; omega
 unfold chargenetlaw49_SettleCredits
 rcases small_eq a0 w0.1.1 (bigF a0) (by unfold bigF; omega) with e | ⟨e, hs⟩
 ·rw [e, Option.bind_some, Bool.not_false, cond_true, example_F _ hF]; rfl
 ·rw [e, Option.bind_some, Bool.not_true, cond_false]
  by_cases q : (10 : Int) < (a0.CDRs.length : Int)
  ·rw [decide_eq_true q, cond_true, example_F _ hF]; rfl
  ·rw [decide_eq_false q, cond_false]
   have hc : ∀ c ∈ a0.CDRs, c.Currency.size < bigF a0 ∧ c.Currency.size ≤ 9223372036854775807 := fun c hc => by
    obtain ⟨_, _, _, _, _, _, _, _, _, h, _⟩ := w0.1.2 c hc
    have := sum_mem a0.CDRs c hc
    exact ⟨by unfold bigF; omega, h⟩
   exact loop_l a0 _ hF (by omega) hs.it hc _ 0 [] (by omega) (by unfold bigF; omega) (by simp) ⟨by simp, by simp [amts]⟩ ⟨by simp, by simp [amts]⟩
end Go.Proofs.Ytoncfkdgddfnlaa.M
