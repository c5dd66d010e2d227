/- Plain laws of chapter 49: what is owed. -/
import Derived.Test.YtoncfkdgddfnlaaPlainK
namespace Go.Proofs.Ytoncfkdgddfnlaa.M
open Go Go.Proofs.Ytoncfkdgddfnlaa.E Go.Proofs.Ytoncfkdgddfnlaa.W
set_option linter.unusedVariables false
set_option linter.unusedSimpArgs false
def sumE (S : Int) : Int × Int := if -9223372036854775808 ≤ S ∧ S ≤ 9223372036854775807 then (S, 0) else (0, 20)
theorem sum_step (S n high low : Int) (hn : -9223372036854775808 ≤ n ∧ n ≤ 9223372036854775807) (hS : -1180591620717411303424 ≤ S ∧ S ≤ 1180591620717411303424) (h1 : 0 ≤ high ∧ high ≤ 18446744073709551615) (h2 : 0 ≤ low ∧ low ≤ 18446744073709551615)
  (h : high * 18446744073709551616 + low = if S < 0 then S + 340282366920938463463374607431768211456 else S) :
  0 ≤ IntKind.wrap .u64 n ∧ ∃ low', (low + IntKind.wrap .u64 n + 0) % 18446744073709551616 = low' ∧ (0 ≤ low' ∧ low' ≤ 18446744073709551615) ∧
  ∃ high', (if n < 0 then IntKind.wrap .u64 (IntKind.wrap .u64 (high + (low + IntKind.wrap .u64 n + 0) / 18446744073709551616) - 1) else IntKind.wrap .u64 (high + (low + IntKind.wrap .u64 n + 0) / 18446744073709551616)) = high' ∧ (0 ≤ high' ∧ high' ≤ 18446744073709551615) ∧
  high' * 18446744073709551616 + low' = if S + n < 0 then S + n + 340282366920938463463374607431768211456 else S + n := by
 simp only [IntKind.wrap_u64]
 refine ⟨by omega, _, rfl, by omega, _, rfl, ?_, ?_⟩
 ·split <;> omega
 ·split at h <;> split <;> split <;> omega
theorem p8_eq (S high low : Int) (hS : -1180591620717411303424 ≤ S ∧ S ≤ 1180591620717411303424) (h1 : 0 ≤ high ∧ high ≤ 18446744073709551615) (h2 : 0 ≤ low ∧ low ≤ 18446744073709551615)
  (h : high * 18446744073709551616 + low = if S < 0 then S + 340282366920938463463374607431768211456 else S) : money_Sum_p8 high low = some (sumE S) := by
 unfold money_Sum_p8 money_Sum_p3 sumE
 have hw : IntKind.wrap .i64 low = if low < 9223372036854775808 then low else low - 18446744073709551616 := by
  rw [IntKind.wrap_i64]; split <;> omega
 by_cases q1 : high = 0
 ·rw [decide_eq_true q1]
  by_cases q2 : 0 ≤ IntKind.wrap .i64 low
  ·rw [decide_eq_true q2]
   rw [hw] at q2
   rw [hw]
   have e : S = low := by split at h <;> split at q2 <;> omega
   have : low < 9223372036854775808 := by split at q2 <;> omega
   rw [if_pos this, if_pos (by omega), e]; rfl
  ·rw [decide_eq_false q2]
   rw [hw] at q2
   rw [if_neg (by split at h <;> split at q2 <;> omega)]; rfl
 ·rw [decide_eq_false q1]
  by_cases q3 : high = 18446744073709551615
  ·rw [decide_eq_true q3]
   by_cases q2 : 0 ≤ IntKind.wrap .i64 low
   ·rw [decide_eq_true q2]
    rw [hw] at q2
    rw [if_neg (by split at h <;> split at q2 <;> omega)]; rfl
   ·rw [decide_eq_false q2]
    rw [hw] at q2
    rw [hw]
    have e : S = low - 18446744073709551616 := by split at h <;> split at q2 <;> omega
    have : ¬ low < 9223372036854775808 := by split at q2 <;> omega
    rw [if_neg this, if_pos (by omega), e]; rfl
  ·rw [decide_eq_false q3]
   rw [if_neg (by split at h <;> omega)]; rfl
theorem sum_bound : ∀ (l : List Int), (∀ x ∈ l, -9223372036854775808 ≤ x ∧ x ≤ 9223372036854775807) → -(9223372036854775808 * (l.length : Int)) ≤ l.sum ∧ l.sum ≤ 9223372036854775808 * (l.length : Int)
 | [], _ => by simp
 | x :: l, h => by
  have h1 := h x List.mem_cons_self
  have h2 := sum_bound l (fun y hy => h y (List.mem_cons_of_mem _ hy))
  rw [List.sum_cons, List.length_cons]
  omega
theorem sum_l (l : List Int) (hl : l.length ≤ 100) (hx : ∀ x ∈ l, -9223372036854775808 ≤ x ∧ x ≤ 9223372036854775807) : ∀ (n i : Nat) (high low : Int), i ≤ l.length → l.length < n + i → 0 ≤ high ∧ high ≤ 18446744073709551615 → 0 ≤ low ∧ low ≤ 18446744073709551615 →
  (high * 18446744073709551616 + low = if (l.take i).sum < 0 then (l.take i).sum + 340282366920938463463374607431768211456 else (l.take i).sum) → money_Sum_l24 l n high low (i : Int) = some (sumE l.sum)
 | 0, i, high, low, h1, h2, _, _, _ => by omega
 | n + 1, i, high, low, h1, h2, hh, hlo, h => by
  simp only [money_Sum_l24, money_Sum_b24]
  have hb := sum_bound (l.take i) (fun x hx' => hx x (List.mem_of_mem_take hx'))
  have hlen : (l.take i).length ≤ 100 := by rw [List.length_take]; omega
  by_cases hi : i < l.length
  ·have htk : l.take (i + 1) = l.take i ++ [l[i]] := by rw [List.take_add_one, List.getElem?_eq_getElem hi]; rfl
   obtain ⟨g0, low', e1, g1, high', e2, g2, g3⟩ := sum_step (l.take i).sum l[i] high low (hx _ (List.getElem_mem hi)) (by omega) hh hlo h
   have hnext : (l.take (i + 1)).sum = (l.take i).sum + l[i] := by rw [htk, List.sum_append]; simp
   rw [show decide ((i : Int) < (l.length : Int)) = true by simpa using hi, cond_true, guard_pos (by omega), getD_nat l _ i hi, guard_pos ⟨hlo.1, g0, by omega, by omega⟩]
   unfold money_Sum_p27
   rw [getD_nat l _ i hi, e1, wsucc i (by omega)]
   by_cases hneg : l[i] < 0
   ·rw [decide_eq_true hneg, cond_true]
    rw [if_pos hneg] at e2
    rw [e2]
    exact sum_l l hl hx n (i + 1) high' low' (by omega) (by omega) g2 g1 (by rw [hnext]; exact g3)
   ·rw [decide_eq_false hneg, cond_false]
    rw [if_neg hneg] at e2
    rw [e2]
    exact sum_l l hl hx n (i + 1) high' low' (by omega) (by omega) g2 g1 (by rw [hnext]; exact g3)
  ·rw [show decide ((i : Int) < (l.length : Int)) = false from decide_eq_false (by omega), cond_false]
   rw [List.take_of_length_le (by omega)] at h hb hlen
   exact p8_eq l.sum high low (by omega) hh hlo h
theorem Sum_eq (F : Nat) (hF : 1000 ≤ F) (l : List Int) (hl : l.length ≤ 100) (hx : ∀ x ∈ l, -9223372036854775808 ≤ x ∧ x ≤ 9223372036854775807) : money_Sum F l = some (sumE l.sum) := by
 unfold money_Sum
 exact sum_l l hl hx F 0 0 0 (by omega) (by omega) (by omega) (by omega) (by simp)
def gr (id : ByteArray) (d : SDispute) : Bool := sEq d.CDR id && decide (d.State = 4)
def amtO (c : SCDR) : Option SDispute → Int
 | some d => IntKind.wrap .i64 (c.Total - d.Granted)
 | none => c.Total
def amtD (ds : List SDispute) (c : SCDR) : Int := amtO c (ds.find? (gr c.ID))
theorem amount_l (c : SCDR) (ds : List SDispute) (hl : ds.length ≤ 900) : ∀ (n i : Nat), i ≤ ds.length → ds.length < n + i → dispute_Amount_l13 c ds n (i : Int) = some (amtO c ((ds.drop i).find? (gr c.ID)))
 | 0, i, h1, h2 => by omega
 | n + 1, i, h1, h2 => by
  simp only [dispute_Amount_l13, dispute_Amount_b13, dispute_Amount_p15]
  by_cases hi : i < ds.length
  ·rw [show decide ((i : Int) < (ds.length : Int)) = true by simpa using hi, cond_true, guard_pos (by omega), getD_nat ds _ i hi, wsucc i (by omega), amount_l c ds hl n (i + 1) (by omega) (by omega), List.drop_eq_getElem_cons hi, List.find?_cons]
   unfold gr
   cases sEq ds[i].CDR c.ID <;> cases decide (ds[i].State = 4) <;> rfl
  ·rw [show decide ((i : Int) < (ds.length : Int)) = false from decide_eq_false (by omega), cond_false, List.drop_eq_nil_of_le (by omega)]; rfl
theorem amount_eq (F : Nat) (hF : 1000 ≤ F) (c : SCDR) (ds : List SDispute) (hl : ds.length ≤ 900) : dispute_Amount F c ds = some (amtO c (ds.find? (gr c.ID))) := by
 unfold dispute_Amount
 exact amount_l c ds hl F 0 (by omega) (by omega)
theorem grants_l (ds : List SDispute) (hl : ds.length ≤ 900) : ∀ (n i : Nat) (o : List (ByteArray × SDispute)), i ≤ ds.length → ds.length < n + i → (∀ id, alook o id = (ds.take i).find? (gr id)) →
  ∃ o', settle_grants_own_l17 ds n (i : Int) o = some o' ∧ ∀ id, alook o' id = ds.find? (gr id)
 | 0, i, o, h1, h2, _ => by omega
 | n + 1, i, o, h1, h2, h => by
  simp only [settle_grants_own_l17, settle_grants_own_b17, settle_grants_own_p20]
  by_cases hi : i < ds.length
  ·have htk : ds.take (i + 1) = ds.take i ++ [ds[i]] := by rw [List.take_add_one, List.getElem?_eq_getElem hi]; rfl
   rw [show decide ((i : Int) < (ds.length : Int)) = true by simpa using hi, cond_true, guard_pos (by omega), getD_nat ds _ i hi, wsucc i (by omega)]
   have hfind : ∀ id, (ds.take (i + 1)).find? (gr id) = ((ds.take i).find? (gr id)).or (if gr id ds[i] then some ds[i] else none) := fun id => by
    rw [htk, List.find?_append]
    congr 1
    rw [List.find?_cons]
    cases gr id ds[i] <;> rfl
   have hskip : (∀ id, gr id ds[i] = true → (alook o id).isSome = true) → ∀ id, alook o id = (ds.take (i + 1)).find? (gr id) := fun hs id => by
    rw [hfind, ← h]
    cases hq : alook o id with
    | some d => rfl
    | none =>
     have : gr id ds[i] = false := by
      rw [Bool.eq_false_iff]; intro hg
      have := hs id hg
      rw [hq] at this; cases this
     rw [this]; rfl
   rcases Bool.eq_false_or_eq_true (alook o ds[i].CDR).isSome with q1 | q1
   ·rw [q1, Bool.not_true, cond_false]
    refine grants_l ds hl n (i + 1) o (by omega) (by omega) (hskip (fun id hg => ?_))
    unfold gr at hg
    rw [Bool.and_eq_true] at hg
    rw [← (sEq_iff _ _).1 hg.1]; exact q1
   ·rw [q1, Bool.not_false, cond_true]
    by_cases q2 : ds[i].State = 4
    ·rw [decide_eq_true q2, cond_true]
     refine grants_l ds hl n (i + 1) _ (by omega) (by omega) (fun id => ?_)
     rw [hfind, alook_aset, ← h]
     unfold gr
     rw [decide_eq_true q2, Bool.and_true]
     by_cases hid : id = ds[i].CDR
     ·have : alook o id = none := by rw [hid]; simpa using q1
      rw [if_pos ((sEq_iff _ _).2 hid), this, if_pos ((sEq_iff _ _).2 hid.symm)]; rfl
     ·rw [if_neg (fun e => hid ((sEq_iff _ _).1 e)), if_neg (fun e => hid ((sEq_iff _ _).1 e).symm)]
      cases alook o id <;> rfl
    ·rw [decide_eq_false q2, cond_false]
     refine grants_l ds hl n (i + 1) o (by omega) (by omega) (hskip (fun id hg => ?_))
     unfold gr at hg
     rw [Bool.and_eq_true, decide_eq_true_eq] at hg
     exact absurd hg.2 q2
  ·rw [show decide ((i : Int) < (ds.length : Int)) = false from decide_eq_false (by omega), cond_false]
   rw [List.take_of_length_le (by omega)] at h
   exact ⟨o, rfl, h⟩
theorem grants_eq (F : Nat) (hF : 1000 ≤ F) (ds : List SDispute) (hl : ds.length ≤ 900) : ∃ o, settle_grants_own F ds = some o ∧ ∀ id, alook o id = ds.find? (gr id) := by
 unfold settle_grants_own
 exact grants_l ds hl F 0 [] (by omega) (by omega) (fun id => by simp [alook_nil])
def firstC : List SCDR → Int
 | [] => 0
 | c :: r => bif !decide (cdrE c = 0) then cdrE c else firstC r
def firstD : List SDispute → Int
 | [] => 0
 | d :: r => bif !decide (disE d = 0) then disE d else firstD r
def askE (a b cur : ByteArray) (s : SSpan) : Int := bif !decide (parE a b = 0) then parE a b else bif !(cuB cur) then 21 else bif decide (s.From < 0) then 2 else bif decide (s.To < s.From) then 2 else bif decide (268435456 < s.To) then 2 else 0
def chkE (l : List SCDR) (ds : List SDispute) (a b cur : ByteArray) (s : SSpan) : Int := bif !decide (firstC l = 0) then firstC l else bif !decide (firstD ds = 0) then firstD ds else askE a b cur s
theorem chk_p10 (F : Nat) (hF : 1000 ≤ F) (a b cur : ByteArray) (s : SSpan) : settle_check_p10 F a b cur s = some (askE a b cur s) := by
 unfold settle_check_p10 askE
 rw [partiesF F hF, cu_eqF F hF]
 simp only [Option.bind_some]
 cases decide (parE a b = 0) <;> cases cuB cur <;> cases decide (s.From < 0) <;> cases decide (s.To < s.From) <;> cases decide (268435456 < s.To) <;> rfl
theorem chk_ds (F : Nat) (hF : 1000 ≤ F) (ds : List SDispute) (hl : ds.length ≤ 900) (a b cur : ByteArray) (s : SSpan) : ∀ (n i : Nat), i ≤ ds.length → ds.length < n + i → settle_check_l22 F ds a b cur s n (i : Int) = some (bif !decide (firstD (ds.drop i) = 0) then firstD (ds.drop i) else askE a b cur s)
 | 0, i, h1, h2 => by omega
 | n + 1, i, h1, h2 => by
  simp only [settle_check_l22, settle_check_b22]
  by_cases hi : i < ds.length
  ·rw [show decide ((i : Int) < (ds.length : Int)) = true by simpa using hi, cond_true, guard_pos (by omega), getD_nat ds _ i hi, dis_eq F hF, Option.bind_some, wsucc i (by omega), chk_ds F hF ds hl a b cur s n (i + 1) (by omega) (by omega), List.drop_eq_getElem_cons hi]
   simp only [firstD]
   rcases Bool.eq_false_or_eq_true (decide (disE ds[i] = 0)) with hq | hq
   ·simp only [hq, Bool.not_true, cond_false]
   ·simp only [hq, Bool.not_false, cond_true]
  ·rw [show decide ((i : Int) < (ds.length : Int)) = false from decide_eq_false (by omega), cond_false, List.drop_eq_nil_of_le (by omega), chk_p10 F hF]; rfl
theorem chk_l (F : Nat) (hF : 1000 ≤ F) (l : List SCDR) (hl : l.length ≤ 900) (hit : ∀ c ∈ l, c.Items.length ≤ 40) (ds : List SDispute) (hd : ds.length ≤ 900) (a b cur : ByteArray) (s : SSpan) : ∀ (n i : Nat), i ≤ l.length → l.length < n + i → settle_check_l40 F l ds a b cur s n (i : Int) = some (chkE (l.drop i) ds a b cur s)
 | 0, i, h1, h2 => by omega
 | n + 1, i, h1, h2 => by
  simp only [settle_check_l40, settle_check_b40]
  by_cases hi : i < l.length
  ·rw [show decide ((i : Int) < (l.length : Int)) = true by simpa using hi, cond_true, guard_pos (by omega), getD_nat l _ i hi, cdr_eq F hF _ (hit _ (List.getElem_mem hi)), Option.bind_some, wsucc i (by omega), chk_l F hF l hl hit ds hd a b cur s n (i + 1) (by omega) (by omega), List.drop_eq_getElem_cons hi]
   simp only [chkE, firstC]
   rcases Bool.eq_false_or_eq_true (decide (cdrE l[i] = 0)) with hq | hq
   ·simp only [hq, Bool.not_true, cond_false]
   ·simp only [hq, Bool.not_false, cond_true]
  ·rw [show decide ((i : Int) < (l.length : Int)) = false from decide_eq_false (by omega), cond_false, List.drop_eq_nil_of_le (by omega)]
   unfold settle_check_p28
   have h := chk_ds F hF ds hd a b cur s F 0 (by omega) (by omega)
   simp only [Int.natCast_zero, List.drop_zero] at h
   rw [h]; rfl
theorem check_eqF (F : Nat) (hF : 1000 ≤ F) (l : List SCDR) (hl : l.length ≤ 900) (hit : ∀ c ∈ l, c.Items.length ≤ 40) (ds : List SDispute) (hd : ds.length ≤ 900) (a b cur : ByteArray) (s : SSpan) : settle_check F l ds a b cur s = some (chkE l ds a b cur s) := by
 unfold settle_check
 have h := chk_l F hF l hl hit ds hd a b cur s F 0 (by omega) (by omega)
 simpa using h
def sel (a b cur : ByteArray) (s : SSpan) (c : SCDR) : Bool := sEq c.Operator a && (sEq c.Provider b && (sEq c.Currency cur && (!decide (c.End < s.From) && !decide (s.To ≤ c.End))))
def amts (l : List SCDR) (ds : List SDispute) (a b cur : ByteArray) (s : SSpan) : List Int := (l.filter (sel a b cur s)).map (amtD ds)
def owedE (l : List SCDR) (ds : List SDispute) (a b cur : ByteArray) (s : SSpan) : Int × Int := bif !decide (chkE l ds a b cur s = 0) then (0, chkE l ds a b cur s) else sumE (amts l ds a b cur s).sum
theorem amtD_range (ds : List SDispute) (c : SCDR) (h : -9223372036854775808 ≤ c.Total ∧ c.Total ≤ 9223372036854775807) : -9223372036854775808 ≤ amtD ds c ∧ amtD ds c ≤ 9223372036854775807 := by
 unfold amtD amtO
 split
 ·rw [IntKind.wrap_i64]; omega
 ·exact h
theorem owed_l (F : Nat) (hF : 1000 ≤ F) (l : List SCDR) (hl : l.length ≤ 100) (ds : List SDispute) (a b cur : ByteArray) (s : SSpan) (g : List (ByteArray × SDispute)) (hg : ∀ id, alook g id = ds.find? (gr id)) : ∀ (n i : Nat) (o : List Int), i ≤ l.length → l.length < n + i → o.length ≤ i →
  settle_Owed_l45 F l a b cur s g n (i : Int) o = settle_Owed_p10 F (o ++ amts (l.drop i) ds a b cur s)
 | 0, i, o, h1, h2, _ => by omega
 | n + 1, i, o, h1, h2, ho => by
  simp only [settle_Owed_l45, settle_Owed_b45, settle_Owed_p48]
  by_cases hi : i < l.length
  ·rw [show decide ((i : Int) < (l.length : Int)) = true by simpa using hi, cond_true, guard_pos (by omega), getD_nat l _ i hi, wsucc i (by omega), owed_l F hF l hl ds a b cur s g hg n (i + 1) o (by omega) (by omega) (by omega), List.drop_eq_getElem_cons hi]
   unfold settle_Owed_p59 settle_Owed_p48
   rw [getD_nat l _ i hi, amount_eq F hF _ _ (by simp), amount_eq F hF _ _ (by simp), Option.bind_some, Option.bind_some, wsucc i (by omega), guard_pos (by first | (simp; done) | (simp; omega)), guard_pos (by first | (simp; done) | (simp; omega)), guard_pos (by first | (simp; done) | (simp; omega))]
   dsimp only
   rw [owed_l F hF l hl ds a b cur s g hg n (i + 1) _ (by omega) (by omega) (by simp; omega), owed_l F hF l hl ds a b cur s g hg n (i + 1) _ (by omega) (by omega) (by simp; omega)]
   unfold amts
   rw [List.filter_cons]
   unfold sel
   cases sEq l[i].Operator a <;> try rfl
   cases sEq l[i].Provider b <;> try rfl
   cases sEq l[i].Currency cur <;> try rfl
   cases decide (l[i].End < s.From) <;> try rfl
   cases decide (s.To ≤ l[i].End) <;> try rfl
   simp only [Bool.not_true, Bool.not_false, cond_false, Bool.and_self, if_true, List.map_cons]
   have hd : amtD ds l[i] = amtO l[i] (alook g l[i].ID) := by unfold amtD; rw [hg]
   rw [hd]
   cases hq : alook g l[i].ID with
   | none => simp [amtO]
   | some d =>
    have hgd : gr l[i].ID d = true := List.find?_some (by rw [← hg]; exact hq)
    simp [amtO, hgd]
  ·rw [show decide ((i : Int) < (l.length : Int)) = false from decide_eq_false (by omega), cond_false, List.drop_eq_nil_of_le (by omega)]
   simp [amts]
theorem owed_eq (F : Nat) (hF : 1000 ≤ F) (l : List SCDR) (hl : l.length ≤ 100) (hit : ∀ c ∈ l, c.Items.length ≤ 40) (ht : ∀ c ∈ l, -9223372036854775808 ≤ c.Total ∧ c.Total ≤ 9223372036854775807) (ds : List SDispute) (hd : ds.length ≤ 900) (a b cur : ByteArray) (s : SSpan) : settle_Owed F l ds a b cur s = some (owedE l ds a b cur s) := by
 unfold settle_Owed owedE
 rw [check_eqF F hF l (by omega) hit ds hd, Option.bind_some]
 obtain ⟨g, e, hg⟩ := grants_eq F hF ds hd
 rw [e, Option.bind_some]
 have h := owed_l F hF l hl ds a b cur s g hg F 0 [] (by omega) (by omega) (by simp)
 simp only [Int.natCast_zero, List.drop_zero, List.nil_append] at h
 rw [h]
 unfold settle_Owed_p10
 have hlen : (amts l ds a b cur s).length ≤ 100 := by
  unfold amts
  rw [List.length_map]
  exact Nat.le_trans (List.length_filter_le _ _) hl
 rw [Sum_eq F hF _ hlen (fun x hx => by
  unfold amts at hx
  obtain ⟨c, hc, rfl⟩ := List.mem_map.1 hx
  exact amtD_range ds c (ht c (List.mem_filter.1 hc).1)), Option.bind_some]
 cases decide (chkE l ds a b cur s = 0)
 ·rfl
 ·simp only [Bool.not_true, cond_false]
  unfold sumE
  split <;> rfl
end Go.Proofs.Ytoncfkdgddfnlaa.M
