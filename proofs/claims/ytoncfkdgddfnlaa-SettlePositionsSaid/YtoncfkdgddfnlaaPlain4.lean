/- Plain law SettlePositions: Net preserves positions, is its own Net, and has fewer elements than parties. -/
import Derived.Test.YtoncfkdgddfnlaaPlainI
namespace Go.Proofs.Ytoncfkdgddfnlaa.M
open Go Go.Proofs.Ytoncfkdgddfnlaa.E Go.Proofs.Ytoncfkdgddfnlaa.W
set_option linter.unusedVariables false
set_option linter.unusedSimpArgs false
theorem Path.len (KK : List (ByteArray × ByteArray)) {a : List SBalance} {p q : Pos} (h : Path p a q) (hs : ∀ c k, p c k ≠ 0 → (c, k) ∈ KK) : a.length ≤ KK.length := by
 have hc := h.count (fun _ => true) KK hs
 have hn : nzq (fun _ => true) KK p ≤ KK.length := List.length_filter_le _ _
 have e : a.filter (fun t => true) = a := List.filter_eq_self.2 (fun _ _ => rfl)
 rw [e] at hc
 omega
def keysL (l : List SBalance) : List (ByteArray × ByteArray) := l.flatMap (fun t => [(t.Currency, t.Creditor), (t.Currency, t.Debtor)])
theorem keysL_len (l : List SBalance) : (keysL l).length = 2 * l.length := by
 induction l with
 | nil => rfl
 | cons t l ih => simp only [keysL, List.flatMap_cons, List.length_append, List.length_cons, List.length_nil] at ih ⊢; omega
theorem keysL_sup (l : List SBalance) (c k : ByteArray) (h : posOf l c k ≠ 0) : (c, k) ∈ keysL l := by
 obtain ⟨t, ht, rfl, hk⟩ := posOf_supp l c k h
 refine List.mem_flatMap.2 ⟨t, ht, ?_⟩
 rcases hk with rfl | rfl <;> simp
theorem Path.amt_le {B : Int} : ∀ {a : List SBalance} {p q : Pos}, Path p a q → (∀ c k, -B ≤ p c k ∧ p c k ≤ B) → ∀ t ∈ a, t.Amount ≤ B
 | [], p, q, h, hb, t, ht => by cases ht
 | u :: a, p, q, h, hb, t, ht => by
  rcases List.mem_cons.1 ht with rfl | ht
  ·have h1 := h.1.amt
   have h2 := hb t.Currency t.Creditor
   split at h1 <;> omega
  ·exact Path.amt_le h.2 (fun c k => h.1.bound (hb c k)) t ht
theorem position_l {ps : List SPosition} {p : Pos} {CK : ByteArray → ByteArray → Prop} (h : PI ps p CK) (hl : ps.length ≤ 900) (c k : ByteArray) : ∀ (n i : Nat), i ≤ ps.length → ps.length < n + i → (c, k) ∉ (ps.take i).map keyP → chargenetlaw49_position_l13 ps c k n (i : Int) = some (p c k)
 | 0, i, h1, h2, _ => by omega
 | n + 1, i, h1, h2, hn => by
  simp only [chargenetlaw49_position_l13, chargenetlaw49_position_b13, chargenetlaw49_position_p15]
  by_cases hi : i < ps.length
  ·rw [show decide ((i : Int) < (ps.length : Int)) = true by simpa using hi, cond_true, guard_pos (by omega), getD_nat ps _ i hi, wsucc i (by omega)]
   have htk : ps.take (i + 1) = ps.take i ++ [ps[i]] := by rw [List.take_add_one, List.getElem?_eq_getElem hi]; rfl
   have hnext : ¬ ((c, k) = keyP ps[i]) → chargenetlaw49_position_l13 ps c k n ((i + 1 : Nat) : Int) = some (p c k) := fun hne => by
    refine position_l h hl c k n (i + 1) (by omega) (by omega) ?_
    rw [htk, List.map_append, List.mem_append]
    rintro (hh | hh)
    ·exact hn hh
    ·simp only [List.map_cons, List.map_nil, List.mem_singleton] at hh
     exact hne hh
   by_cases q1 : ps[i].Currency = c
   ·rw [(sEq_iff _ _).2 q1, cond_true]
    by_cases q2 : ps[i].Party = k
    ·rw [(sEq_iff _ _).2 q2, cond_true, h.val _ (List.getElem_mem hi), q1, q2]
    ·rw [(sEq_false _ _).2 q2, cond_false]
     exact hnext (fun e => q2 (Prod.mk.inj e).2.symm)
   ·rw [(sEq_false _ _).2 q1, cond_false]
    exact hnext (fun e => q1 (Prod.mk.inj e).1.symm)
  ·rw [show decide ((i : Int) < (ps.length : Int)) = false from decide_eq_false (by omega), cond_false]
   rw [List.take_of_length_le (by omega)] at hn
   have : p c k = 0 := by
    apply Decidable.byContradiction
    intro hz
    exact hn ((h.mem c k).2 (h.zero c k hz))
   rw [this]; rfl
theorem position_eq {ps : List SPosition} {p : Pos} {CK : ByteArray → ByteArray → Prop} (h : PI ps p CK) (hl : ps.length ≤ 900) (c k : ByteArray) : chargenetlaw49_position 1000 ps c k = some (p c k) := by
 unfold chargenetlaw49_position
 exact position_l h hl c k 1000 0 (by omega) (by omega) (by simp)
theorem wnat (n : Nat) (h : n ≤ 1000) : IntKind.wrap .i64 ((n : Int) + 1) = ((n + 1 : Nat) : Int) := wsucc n (by omega)
section
variable (c4 : List SBalance × Int) (ps : List SPosition) (hps : ps.length ≤ 400) (hout : c4.1.length ≤ 400) (t44 : Int) (i0 : Nat) (kl : Int → Int → Option Bool)
theorem count_m (hout : c4.1.length ≤ 400) (hpos : ∀ t ∈ c4.1, 0 < t.Amount) (nn : Int) : ∀ (n i m : Nat), i ≤ c4.1.length → c4.1.length < n + i → m ≤ i → chargenetlaw49_SettlePositions_l158 c4 ps t44 (i0 : Int) kl nn n (m : Int) (i : Int) =
  chargenetlaw49_SettlePositions_p143 t44 (i0 : Int) kl nn ((m + ((c4.1.drop i).filter (fun t => sEq t.Currency (ps.getD i0 dSPosition).Currency)).length : Nat) : Int)
 | 0, i, m, h1, h2, _ => by omega
 | n + 1, i, m, h1, h2, hm => by
  simp only [chargenetlaw49_SettlePositions_l158, chargenetlaw49_SettlePositions_b158, chargenetlaw49_SettlePositions_p163]
  by_cases hi : i < c4.1.length
  ·have hp := hpos c4.1[i] (List.getElem_mem hi)
   rw [show decide ((i : Int) < (c4.1.length : Int)) = true by simpa using hi, cond_true, guard_pos (by omega), getD_nat c4.1 _ i hi, decide_eq_false (by omega), cond_false, wsucc i (by omega), wnat m (by omega), List.drop_eq_getElem_cons hi, List.filter_cons]
   simp only [Int.toNat_natCast, cond_false]
   rcases Bool.eq_false_or_eq_true (sEq c4.1[i].Currency (ps.getD i0 dSPosition).Currency) with hq | hq
   ·rw [hq, cond_true, if_pos rfl, count_m hout hpos nn n (i + 1) (m + 1) (by omega) (by omega) (by omega), List.length_cons]
    congr 2; omega
   ·rw [hq, cond_false, if_neg (by simp), count_m hout hpos nn n (i + 1) m (by omega) (by omega) (by omega)]
  ·rw [show decide ((i : Int) < (c4.1.length : Int)) = false from decide_eq_false (by omega), cond_false, List.drop_eq_nil_of_le (by omega)]
   rfl
theorem count_n (hps : ps.length ≤ 400) : ∀ (n i m : Nat), i ≤ ps.length → ps.length < n + i → m ≤ i → chargenetlaw49_SettlePositions_l178 1000 c4 ps t44 (i0 : Int) kl n (m : Int) (i : Int) =
  chargenetlaw49_SettlePositions_p165 1000 c4 ps t44 (i0 : Int) kl ((m + ((ps.drop i).filter (fun t => sEq t.Currency (ps.getD i0 dSPosition).Currency)).length : Nat) : Int)
 | 0, i, m, h1, h2, _ => by omega
 | n + 1, i, m, h1, h2, hm => by
  simp only [chargenetlaw49_SettlePositions_l178, chargenetlaw49_SettlePositions_b178, chargenetlaw49_SettlePositions_p181]
  by_cases hi : i < ps.length
  ·rw [show decide ((i : Int) < (ps.length : Int)) = true by simpa using hi, cond_true, guard_pos (by omega), getD_nat ps _ i hi, wsucc i (by omega), wnat m (by omega), List.drop_eq_getElem_cons hi, List.filter_cons]
   simp only [Int.toNat_natCast]
   rcases Bool.eq_false_or_eq_true (sEq ps[i].Currency (ps.getD i0 dSPosition).Currency) with hq | hq
   ·rw [hq, cond_true, if_pos rfl, count_n hps n (i + 1) (m + 1) (by omega) (by omega) (by omega), List.length_cons]
    congr 2; omega
   ·rw [hq, cond_false, if_neg (by simp), count_n hps n (i + 1) m (by omega) (by omega) (by omega)]
  ·rw [show decide ((i : Int) < (ps.length : Int)) = false from decide_eq_false (by omega), cond_false, List.drop_eq_nil_of_le (by omega)]
   rfl
end
theorem each_l (c4 : List SBalance × Int) (ps ps2 : List SPosition) (p : Pos) (CK CK2 : ByteArray → ByteArray → Prop) (h1 : PI ps p CK) (h2 : PI ps2 p CK2) (hl1 : ps.length ≤ 400) (hl2 : ps2.length ≤ 400) (hout : c4.1.length ≤ 400) {q : Pos} (hP : Path p c4.1 q) :
  ∀ (n i : Nat), i ≤ ps.length → ps.length < n + i → chargenetlaw49_SettlePositions_l133 1000 c4 ps ps2 n (ps.length : Int) (i : Int) = chargenetlaw49_SettlePositions_p29 1000 c4
 | 0, i, _, _ => by omega
 | n + 1, i, g1, g2 => by
  simp only [chargenetlaw49_SettlePositions_l133, chargenetlaw49_SettlePositions_b133]
  by_cases hi : i < ps.length
  ·rw [show decide ((i : Int) < (ps.length : Int)) = true by simpa using hi, cond_true, guard_pos (by omega), getD_nat ps _ i hi, position_eq h2 (by omega), Option.bind_some, h1.val _ (List.getElem_mem hi)]
   simp only [decide_true, Bool.not_true, cond_false]
   have e := count_n c4 ps (ps.length : Int) i (fun a b => chargenetlaw49_SettlePositions_l133 1000 c4 ps ps2 n a b) hl1 1000 0 0 (by omega) (by omega) (by omega)
   simp only [Int.natCast_zero] at e
   rw [e]
   unfold chargenetlaw49_SettlePositions_p165
   have hpos : ∀ t ∈ c4.1, 0 < t.Amount := fun t ht => (hP.amounts t ht).1
   have e2 := count_m c4 ps (ps.length : Int) i (fun a b => chargenetlaw49_SettlePositions_l133 1000 c4 ps ps2 n a b) hout hpos ((0 + ((ps.drop 0).filter (fun t => sEq t.Currency (ps.getD i dSPosition).Currency)).length : Nat) : Int) 1000 0 0 (by omega) (by omega) (by omega)
   simp only [Int.natCast_zero] at e2
   rw [e2]
   have egi : ps.getD i dSPosition = ps[i] := by simp [List.getD_eq_getElem?_getD, hi]
   simp only [List.drop_zero, Nat.zero_add, egi]
   have hc := hP.count (fun c => sEq c ps[i].Currency) (ps.map keyP) (fun c k hz => (h1.mem c k).2 (h1.zero c k hz))
   have hn : nzq (fun c => sEq c ps[i].Currency) (ps.map keyP) p ≤ (ps.filter (fun t => sEq t.Currency ps[i].Currency)).length := by
    unfold nzq
    rw [List.filter_map, List.length_map]
    refine filter_le _ _ ps (fun x hx hh => ?_)
    simp only [Function.comp, keyP, Bool.and_eq_true] at hh
    exact hh.1
   have hone : 1 ≤ (ps.filter (fun t => sEq t.Currency ps[i].Currency)).length := by
    have : ps[i] ∈ ps.filter (fun t => sEq t.Currency ps[i].Currency) := List.mem_filter.2 ⟨List.getElem_mem hi, sEq_self _⟩
    exact List.length_pos_of_mem this
   unfold chargenetlaw49_SettlePositions_p143 chargenetlaw49_SettlePositions_p135
   rw [decide_eq_false (by omega), cond_false, wsucc i (by omega)]
   exact each_l c4 ps ps2 p CK CK2 h1 h2 hl1 hl2 hout hP n (i + 1) (by omega) (by omega)
  ·rw [show decide ((i : Int) < (ps.length : Int)) = false from decide_eq_false (by omega), cond_false]
theorem great_l (c4 : List SBalance × Int) (hl : c4.1.length ≤ 900) : ∀ (n i : Nat), i ≤ c4.1.length → c4.1.length < n + i → chargenetlaw49_SettlePositions_l25 1000 c4 n (i : Int) = some true ∨ (chargenetlaw49_SettlePositions_l25 1000 c4 n (i : Int) = chargenetlaw49_SettlePositions_p17 1000 c4 ∧ ∀ t ∈ c4.1.drop i, t.Amount ≤ 1099511627776)
 | 0, i, _, _ => by omega
 | n + 1, i, g1, g2 => by
  simp only [chargenetlaw49_SettlePositions_l25, chargenetlaw49_SettlePositions_b25]
  by_cases hi : i < c4.1.length
  ·rw [show decide ((i : Int) < (c4.1.length : Int)) = true by simpa using hi, cond_true, guard_pos (by omega), getD_nat c4.1 _ i hi, wsucc i (by omega), List.drop_eq_getElem_cons hi]
   by_cases h : (1099511627776 : Int) < c4.1[i].Amount
   ·rw [decide_eq_true h]; exact .inl rfl
   ·rw [decide_eq_false h, cond_false]
    rcases great_l c4 hl n (i + 1) (by omega) (by omega) with e | ⟨e, h2⟩
    ·exact .inl e
    ·refine .inr ⟨e, fun t ht => ?_⟩
     rcases List.mem_cons.1 ht with rfl | ht
     ·omega
     ·exact h2 t ht
  ·rw [show decide ((i : Int) < (c4.1.length : Int)) = false from decide_eq_false (by omega), cond_false, List.drop_eq_nil_of_le (by omega)]
   exact .inr ⟨rfl, fun t ht => by cases ht⟩
theorem plain_chargenetlaw49_SettlePositions (a0 : List SBalance) (w0 : okVec okSBalance a0) : ∃ F, chargenetlaw49_SettlePositions F a0 = some true := by
 refine ⟨1000, ?_⟩
 unfold chargenetlaw49_SettlePositions
 by_cases h : (60 : Int) < (a0.length : Int)
 ·rw [decide_eq_true h, cond_true, example_ok]; rfl
 ·rw [decide_eq_false h, cond_false]
  by_cases h0 : lE a0 = 0
  ·obtain ⟨out, q, e1, e2, e3⟩ := Net_ok a0 (by omega) h0
   have hv := lE_ok.1 h0
   have hlen := e2.len (keysL a0) (keysL_sup a0)
   rw [keysL_len] at hlen
   have hb := posOf_bound a0 (fun t ht => by obtain ⟨_, _, _, _, b0, b1⟩ := cE_ok (hv t ht); exact ⟨b0, b1⟩)
   have hsame : posOf out = posOf a0 := by
    funext c k
    have := e2.sum c k
    rw [e3] at this; omega
   obtain ⟨ps, f1, f2, f3, f4⟩ := Positions.pos_eq a0 (by omega) (fun t ht => by obtain ⟨_, _, h3, _, h5, h6⟩ := cE_ok (hv t ht); exact ⟨h3, h5, by omega⟩)
   have hamt := e2.amt_le (B := 1125899906842624) (fun c k => by have := hb c k; omega)
   have hpos := e2.amounts
   obtain ⟨ps2, g1, g2, g3, g4⟩ := Positions.pos_eq out (by omega) (fun t ht => by
    have := hpos t ht
    exact ⟨this.2.1, by omega, hamt t ht⟩)
   rw [hsame] at g2
   rw [e1, Option.bind_some]
   simp only [decide_true, Bool.not_true, cond_false]
   rw [w64 _ (by omega), decide_eq_false (by omega), cond_false, f1, Option.bind_some, g1, Option.bind_some]
   have e4 := each_l (out, 0) ps ps2 (posOf a0) _ _ f2 g2 (by omega) (by omega) (by simp only; omega) e2 1000 0 (by omega) (by omega)
   simp only [Int.natCast_zero] at e4
   rw [e4]
   unfold chargenetlaw49_SettlePositions_p29
   have e5 := great_l (out, 0) (by simp only; omega) 1000 0 (by omega) (by simp only; omega)
   simp only [Int.natCast_zero, List.drop_zero] at e5
   rcases e5 with e5 | ⟨e5, e6⟩
   ·exact e5
   ·rw [e5]
    unfold chargenetlaw49_SettlePositions_p17
    have hch : lE out = 0 := lE_ok.2 (fun t ht => by
     obtain ⟨p1, p2, _, _, _, p3, p4, _⟩ := hpos t ht
     obtain ⟨u, hu, uc, u1⟩ := posOf_supp a0 _ _ p3
     obtain ⟨v, hv', vc, v1⟩ := posOf_supp a0 _ _ p4
     obtain ⟨i1, i2, _, i4, _⟩ := cE_ok (hv u hu)
     obtain ⟨j1, j2, _, j4, _⟩ := cE_ok (hv v hv')
     refine cE_of ?_ ?_ p2 (by rw [uc]; exact i4) (by omega) (e6 t ht)
     ·rcases u1 with u1 | u1 <;> rw [u1] <;> assumption
     ·rcases v1 with v1 | v1 <;> rw [v1] <;> assumption)
    obtain ⟨out2, q2, k1, k2, k3⟩ := Net_ok out (by omega) hch
    rw [hsame] at k2
    have e := Path.det k2 e2 k3 e3
    subst e
    simp only
    rw [k1, Option.bind_some]
    simp only [decide_true, cond_true]
    rw [same_self out2 (by omega)]; rfl
  ·rw [Net_eq a0 (by omega), decide_eq_false h0]
   simp only [Bool.not_false, cond_true, Option.bind_some, decide_eq_false h0]
   rfl
end Go.Proofs.Ytoncfkdgddfnlaa.M
