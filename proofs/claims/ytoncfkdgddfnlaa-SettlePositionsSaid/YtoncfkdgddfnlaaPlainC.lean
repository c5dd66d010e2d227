/- Plain laws of chapter 49: the checks of balances; how lists are equal. -/
import Derived.Test.YtoncfkdgddfnlaaPlainB
namespace Go.Proofs.Ytoncfkdgddfnlaa.M
open Go Go.Proofs.Ytoncfkdgddfnlaa.E Go.Proofs.Ytoncfkdgddfnlaa.W
set_option linter.unusedVariables false
set_option linter.unusedSimpArgs false
def idB (s : ByteArray) : Bool := (chargenetref01_Valid 1000 s).getD false
theorem id_ref (s : ByteArray) : chargenetref01_Valid 1000 s = some (idB s) := by
 obtain ⟨b, hb⟩ := ident_total s
 unfold idB; rw [hb]; rfl
theorem id_eq (s : ByteArray) : ident_Valid 1000 s = some (idB s) := by rw [ident_eq, id_ref]
theorem id_size {s : ByteArray} (h : idB s = true) : s.size ≤ 36 := ident_len s (by rw [id_ref, h])
theorem cur_l_total (s : ByteArray) (hs : s.size ≤ 3) : ∀ (n i : Nat), i ≤ s.size → s.size < n + i → ∃ b, chargenetref49_currency_l14 s n (i : Int) = some b
 | 0, i, h1, h2 => by omega
 | n + 1, i, h1, h2 => by
  simp only [chargenetref49_currency_l14, chargenetref49_currency_b14]
  by_cases hi : i < s.size
  ·obtain ⟨b, hb⟩ := cur_l_total s hs n (i + 1) (by omega) (by omega)
   rw [show decide ((i : Int) < (s.size : Int)) = true by simpa using hi, cond_true, guard_pos (by omega), guard_pos (by omega), wsucc i (by omega), hb]
   exact opt_cond (opt_some _) (opt_cond (opt_some _) (opt_some _))
  ·rw [show decide ((i : Int) < (s.size : Int)) = false by simp; omega, cond_false]
   exact ⟨_, rfl⟩
theorem cur_total (s : ByteArray) : ∃ b, chargenetref49_currency 1000 s = some b := by
 unfold chargenetref49_currency
 by_cases h : (s.size : Int) = 3
 ·rw [decide_eq_true h]
  exact cur_l_total s (by omega) 1000 0 (by omega) (by omega)
 ·rw [decide_eq_false h]; exact ⟨_, rfl⟩
def cuB (s : ByteArray) : Bool := (chargenetref49_currency 1000 s).getD false
theorem cu_ref (s : ByteArray) : chargenetref49_currency 1000 s = some (cuB s) := by
 obtain ⟨b, hb⟩ := cur_total s
 unfold cuB; rw [hb]; rfl
theorem cu_l (s : ByteArray) : ∀ (n : Nat) (i : Int), settle_isCurrency_l14 s n i = chargenetref49_currency_l14 s n i
 | 0, i => rfl
 | n + 1, i => by
  simp only [settle_isCurrency_l14, settle_isCurrency_b14, chargenetref49_currency_l14, chargenetref49_currency_b14, cu_l s n]
  rfl
theorem cu_eq (s : ByteArray) : settle_isCurrency 1000 s = some (cuB s) := by
 rw [← cu_ref]
 unfold settle_isCurrency chargenetref49_currency
 rw [cu_l]
theorem cu_size {s : ByteArray} (h : cuB s = true) : s.size = 3 := by
 have h1 := cu_ref s
 rw [h] at h1
 unfold chargenetref49_currency at h1
 by_cases h2 : (s.size : Int) = 3
 ·omega
 ·rw [decide_eq_false h2] at h1; cases h1
def parE (a b : ByteArray) : Int := bif !(idB a) then 4 else bif !(idB b) then 4 else bif sEq a b then 1 else 0
theorem parties_eq (a b : ByteArray) : settle_parties 1000 a b = some (parE a b) := by
 unfold settle_parties parE
 rw [id_eq, id_eq]
 cases idB a <;> cases idB b <;> cases sEq a b <;> rfl
def cE (b : SBalance) : Int := bif !decide (parE b.Creditor b.Debtor = 0) then parE b.Creditor b.Debtor else bif !(cuB b.Currency) then 21 else bif decide (b.Amount < 0) then 2 else bif decide (1099511627776 < b.Amount) then 2 else 0
theorem check_eq (b : SBalance) : settle_checkBalance 1000 b = some (cE b) := by
 unfold settle_checkBalance cE
 rw [parties_eq, cu_eq]
 simp only [Option.bind_some]
 cases decide (parE b.Creditor b.Debtor = 0) <;> cases cuB b.Currency <;> cases decide (b.Amount < 0) <;> cases decide (1099511627776 < b.Amount) <;> rfl
theorem cE_ok {b : SBalance} (h : cE b = 0) : idB b.Creditor = true ∧ idB b.Debtor = true ∧ b.Creditor ≠ b.Debtor ∧ cuB b.Currency = true ∧ 0 ≤ b.Amount ∧ b.Amount ≤ 1099511627776 := by
 unfold cE parE at h
 rcases Bool.eq_false_or_eq_true (idB b.Creditor) with h1 | h1 <;> rcases Bool.eq_false_or_eq_true (idB b.Debtor) with h2 | h2 <;> rcases Bool.eq_false_or_eq_true (sEq b.Creditor b.Debtor) with h3 | h3 <;> rcases Bool.eq_false_or_eq_true (cuB b.Currency) with h4 | h4 <;> simp [h1, h2, h3, h4] at h
 by_cases h5 : b.Amount < 0
 ·simp [h5] at h
 ·by_cases h6 : 1099511627776 < b.Amount
  ·simp [h5, h6] at h
  ·exact ⟨h1, h2, (sEq_false _ _).1 h3, h4, by omega, by omega⟩
theorem cE_of {b : SBalance} (h1 : idB b.Creditor = true) (h2 : idB b.Debtor = true) (h3 : b.Creditor ≠ b.Debtor) (h4 : cuB b.Currency = true) (h5 : 0 ≤ b.Amount) (h6 : b.Amount ≤ 1099511627776) : cE b = 0 := by
 unfold cE parE
 rw [h1, h2, (sEq_false _ _).2 h3, h4, decide_eq_false (show ¬ b.Amount < 0 by omega), decide_eq_false (show ¬ 1099511627776 < b.Amount by omega)]
 rfl
def lE : List SBalance → Int
 | [] => 0
 | b :: l => bif !decide (cE b = 0) then cE b else lE l
theorem lE_ok : ∀ {l : List SBalance}, lE l = 0 ↔ ∀ b ∈ l, cE b = 0
 | [] => by simp [lE]
 | b :: l => by
  simp only [lE, List.mem_cons, forall_eq_or_imp]
  by_cases h : cE b = 0
  ·simp [h, lE_ok (l := l)]
  ·simp [h]
theorem net_chk (l : List SBalance) (hl : l.length ≤ 900) : ∀ (n i : Nat), i ≤ l.length → l.length < n + i → settle_Net_l64 1000 l n (i : Int) = bif !decide (lE (l.drop i) = 0) then some ([], lE (l.drop i)) else settle_Net_p52 1000 l
 | 0, i, h1, h2 => by omega
 | n + 1, i, h1, h2 => by
  simp only [settle_Net_l64, settle_Net_b64]
  by_cases hi : i < l.length
  ·rw [show decide ((i : Int) < (l.length : Int)) = true by simpa using hi, cond_true, guard_pos (by omega), getD_nat l _ i hi, check_eq, Option.bind_some, wsucc i (by omega), net_chk l hl n (i + 1) (by omega) (by omega), List.drop_eq_getElem_cons hi]
   simp only [lE]
   by_cases h : cE l[i] = 0
   ·simp [h]
   ·simp [h]
  ·rw [show decide ((i : Int) < (l.length : Int)) = false by simp; omega, cond_false, List.drop_eq_nil_of_le (by omega)]
   rfl
theorem Net_eq (l : List SBalance) (hl : l.length ≤ 900) : settle_Net 1000 l = bif !decide (lE l = 0) then some ([], lE l) else settle_Net_p52 1000 l := by
 unfold settle_Net
 rw [show decide ((1024 : Int) < (l.length : Int)) = false by simp; omega, cond_false]
 have := net_chk l hl 1000 0 (by omega) (by omega)
 simpa using this
theorem same_l (a : List SBalance) (hl : a.length ≤ 900) : ∀ (n i : Nat), i ≤ a.length → a.length < n + i → chargenetlaw49_same_l12 a a n (i : Int) = some true
 | 0, i, h1, h2 => by omega
 | n + 1, i, h1, h2 => by
  simp only [chargenetlaw49_same_l12, chargenetlaw49_same_b12]
  by_cases hi : i < a.length
  ·rw [show decide ((i : Int) < (a.length : Int)) = true by simpa using hi, cond_true, guard_pos (by omega), guard_pos (by omega), wsucc i (by omega), same_l a hl n (i + 1) (by omega) (by omega)]
   simp [sEq_self]
  ·rw [show decide ((i : Int) < (a.length : Int)) = false by simp; omega, cond_false]
   rfl
theorem same_self (a : List SBalance) (hl : a.length ≤ 900) : chargenetlaw49_same 1000 a a = some true := by
 unfold chargenetlaw49_same
 rw [show decide ((a.length : Int) = (a.length : Int)) = true by simp]
 exact same_l a hl 1000 0 (by omega) (by omega)
theorem asc_nodup {o : List ByteArray} (ho : o.Pairwise (fun a b => sLt a b = true)) : o.Nodup := by
 rw [List.nodup_iff_pairwise_ne]
 exact ho.imp (fun h => sLt_ne h)
theorem sortB_asc (l : List ByteArray) (h : l.Nodup) : (sortB l).Pairwise (fun a b => sLt a b = true) := by
 have h1 := sortB_sorted l
 have h2 : (sortB l).Nodup := (sortB_perm l).nodup_iff.2 h
 refine (h1.and h2).imp (fun {x y} h => ?_)
 obtain ⟨h3, h4⟩ := h
 rcases sLt_tri x y with q | q | q
 ·exact q
 ·exact absurd q h4
 ·exfalso
  have q' : bsL y < bsL x := by
   have : Op.bytesLess (bsL y) (bsL x) = true := q
   rw [bless_lt] at this
   simpa using this
  exact absurd h3 (Std.not_le.2 q')
end Go.Proofs.Ytoncfkdgddfnlaa.M
