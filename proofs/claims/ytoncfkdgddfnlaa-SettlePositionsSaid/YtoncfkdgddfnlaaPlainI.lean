/- Plain laws of chapter 49: what the reference's function Positions returns. -/
import Derived.Test.YtoncfkdgddfnlaaPlainG
namespace Go.Proofs.Ytoncfkdgddfnlaa.M
open Go Go.Proofs.Ytoncfkdgddfnlaa.E Go.Proofs.Ytoncfkdgddfnlaa.W
set_option linter.unusedVariables false
set_option linter.unusedSimpArgs false
namespace Positions
theorem wpred (n : Nat) (h : n ≤ 1000) (h0 : 0 < n) : IntKind.wrap .i64 ((n : Int) - 1) = ((n - 1 : Nat) : Int) := by
 rw [Go.IntWalk.i64_in _ (by omega)]; omega
def dec (a b : SPosition) : Bool := sLt a.Currency b.Currency || (sEq b.Currency a.Currency && sLt a.Party b.Party)
theorem dec_iff (a b : SPosition) : dec a b = true ↔ ltP a b := by
 unfold dec ltP
 rw [Bool.or_eq_true, Bool.and_eq_true, sEq_iff]
 constructor
 ·rintro (h | ⟨h1, h2⟩)
  ·exact .inl h
  ·exact .inr ⟨h1.symm, h2⟩
 ·rintro (h | ⟨h1, h2⟩)
  ·exact .inl h
  ·exact .inr ⟨h1.symm, h2⟩
def swp (o : List SPosition) (j : Nat) : List SPosition := (o.set (j - 1) (o.getD j dSPosition)).set j (o.getD (j - 1) dSPosition)
theorem swp_get (o : List SPosition) (j : Nat) (h0 : 0 < j) (hj : j < o.length) (x : Nat) : (swp o j).getD x dSPosition = if x = j then o.getD (j - 1) dSPosition else if x = j - 1 then o.getD j dSPosition else o.getD x dSPosition := by
 unfold swp
 simp only [List.getD_eq_getElem?_getD, List.getElem?_set, List.length_set]
 by_cases h1 : x = j
 ·subst h1; rw [if_pos rfl, if_pos rfl, if_pos hj]; rfl
 ·rw [if_neg h1, if_neg (fun e => h1 e.symm)]
  by_cases h2 : x = j - 1
  ·subst h2; rw [if_pos rfl, if_pos rfl, if_pos (by omega)]; rfl
  ·rw [if_neg h2, if_neg (fun e => h2 e.symm)]
theorem b144_eq (t : Int) (k1 k2 : Int → List SPosition → Option (List SPosition)) (j : Nat) (o : List SPosition) (h0 : 0 < j) (hj : j < o.length) (hl : o.length ≤ 900) :
  chargenetref49_Positions_b144 t k1 k2 (j : Int) o = bif dec (o.getD j dSPosition) (o.getD (j - 1) dSPosition) then k2 ((j - 1 : Nat) : Int) (swp o j) else k1 (IntKind.wrap .i64 (t + 1)) o := by
 unfold chargenetref49_Positions_b144 chargenetref49_Positions_p149 chargenetref49_Positions_p111
 rw [wpred j (by omega) h0]
 simp only [Int.toNat_natCast]
 rw [show decide ((0 : Int) < (j : Int)) = true by simpa using h0, cond_true, guard_pos (by first | omega | (rw [List.length_set]; omega)), guard_pos (by first | omega | (rw [List.length_set]; omega)), gt_eq, gt_eq, guard_pos (by first | omega | (rw [List.length_set]; omega)), guard_pos (by first | omega | (rw [List.length_set]; omega)), guard_pos (by first | omega | (rw [List.length_set]; omega)), guard_pos (by first | omega | (rw [List.length_set]; omega)), guard_pos (by first | omega | (rw [List.length_set]; omega)), guard_pos (by first | omega | (rw [List.length_set]; omega)), guard_pos (by first | omega | (rw [List.length_set]; omega)), guard_pos (by first | omega | (rw [List.length_set]; omega))]
 unfold dec swp
 cases sLt (o.getD j dSPosition).Currency (o.getD (j - 1) dSPosition).Currency <;> cases sEq (o.getD (j - 1) dSPosition).Currency (o.getD j dSPosition).Currency <;> cases sLt (o.getD j dSPosition).Party (o.getD (j - 1) dSPosition).Party <;> rfl
theorem nodup_key {o : List SPosition} (h : (o.map keyP).Nodup) {a b : Nat} (ha : a < o.length) (hb : b < o.length) (he : keyP (o.getD a dSPosition) = keyP (o.getD b dSPosition)) : a = b := by
 have e1 : o.getD a dSPosition = o[a] := by simp [List.getD_eq_getElem?_getD, ha]
 have e2 : o.getD b dSPosition = o[b] := by simp [List.getD_eq_getElem?_getD, hb]
 rw [e1, e2] at he
 rw [List.nodup_iff_pairwise_ne, List.pairwise_map, List.pairwise_iff_getElem] at h
 rcases Nat.lt_trichotomy a b with q | q | q
 ·exact absurd he (h a b ha hb q)
 ·exact q
 ·exact absurd he.symm (h b a hb ha q)
theorem ins_l (kl : Int → List SPosition → Option (List SPosition)) (i : Nat) : ∀ (n j : Nat) (o : List SPosition), j ≤ i → i < o.length → o.length ≤ 900 → j < n → (o.map keyP).Nodup →
  (∀ a b, a < b → b ≤ i → a ≠ j → b ≠ j → ltP (o.getD a dSPosition) (o.getD b dSPosition)) → (∀ b, j < b → b ≤ i → ltP (o.getD j dSPosition) (o.getD b dSPosition)) →
  ∃ o', chargenetref49_Positions_l144 (i : Int) kl n (j : Int) o = kl (IntKind.wrap .i64 ((i : Int) + 1)) o' ∧ o'.Perm o ∧ ∀ a b, a < b → b ≤ i → ltP (o'.getD a dSPosition) (o'.getD b dSPosition)
 | 0, j, o, h1, h2, _, h3, _, _, _ => by omega
 | n + 1, j, o, h1, h2, h2', h3, hnd, hs, hj => by
  simp only [chargenetref49_Positions_l144]
  by_cases h0 : 0 < j
  ·rw [b144_eq _ _ _ j o h0 (by omega) h2']
   by_cases hd : ltP (o.getD j dSPosition) (o.getD (j - 1) dSPosition)
   ·rw [(dec_iff _ _).2 hd, cond_true]
    have hp : (swp o j).Perm o := swap_perm dSPosition o (j - 1) j (by omega) (by omega) (by omega)
    have hg := swp_get o j h0 (by omega)
    obtain ⟨o', e, g1, g2⟩ := ins_l kl i n (j - 1) (swp o j) (by omega) (by rw [hp.length_eq]; omega) (by rw [hp.length_eq]; omega) (by omega) ((hp.map keyP).nodup_iff.2 hnd) (fun a b hab hb na nb => by
      rw [hg, hg]
      by_cases ha : a = j
      ·rw [if_pos ha, if_neg (by omega), if_neg (by omega)]
       exact hs (j - 1) b (by omega) hb (by omega) (by omega)
      ·rw [if_neg ha, if_neg na]
       by_cases hbj : b = j
       ·rw [if_pos hbj]; exact hs a (j - 1) (by omega) (by omega) ha (by omega)
       ·rw [if_neg hbj, if_neg nb]; exact hs a b hab hb ha hbj) (fun b hb hbi => by
      rw [hg, hg, if_neg (by omega), if_pos rfl]
      by_cases hbj : b = j
      ·rw [if_pos hbj]; exact hd
      ·rw [if_neg hbj, if_neg (by omega)]; exact hj b (by omega) hbi)
    exact ⟨o', e, g1.trans hp, g2⟩
   ·rw [show dec (o.getD j dSPosition) (o.getD (j - 1) dSPosition) = false by rw [Bool.eq_false_iff]; exact fun h => hd ((dec_iff _ _).1 h), cond_false]
    refine ⟨o, rfl, List.Perm.refl _, fun a b hab hb => ?_⟩
    have hlast : ltP (o.getD (j - 1) dSPosition) (o.getD j dSPosition) := by
     rcases ltP_tri (o.getD (j - 1) dSPosition) (o.getD j dSPosition) with h | h | h
     ·exact h
     ·have := nodup_key hnd (by omega) (by omega) h; omega
     ·exact absurd h hd
    by_cases ha : a = j
    ·rw [ha]; exact hj b (by omega) hb
    ·by_cases hbj : b = j
     ·rw [hbj]
      by_cases haj : a = j - 1
      ·rw [haj]; exact hlast
      ·exact ltP_trans (hs a (j - 1) (by omega) (by omega) ha (by omega)) hlast
     ·exact hs a b hab hb ha hbj
  ·have hj0 : j = 0 := by omega
   subst hj0
   unfold chargenetref49_Positions_b144 chargenetref49_Positions_p111
   rw [show decide ((0 : Int) < ((0 : Nat) : Int)) = false from rfl, cond_false]
   refine ⟨o, rfl, List.Perm.refl _, fun a b hab hb => ?_⟩
   by_cases ha : a = 0
   ·rw [ha]; exact hj b (by omega) hb
   ·exact hs a b hab hb ha (by omega)
theorem sort_l (o1 : List SPosition) (h1 : o1.length ≤ 900) : ∀ (n i : Nat) (o : List SPosition), i ≤ o1.length → o1.length < n + i → o.length = o1.length → (o.map keyP).Nodup → (∀ a b, a < b → b < i → ltP (o.getD a dSPosition) (o.getD b dSPosition)) →
  ∃ o', chargenetref49_Positions_l108 1000 o1 n (i : Int) o = some o' ∧ o'.Perm o ∧ o'.Pairwise ltP
 | 0, i, o, h2, h3, _, _, _ => by omega
 | n + 1, i, o, h2, h3, hl, hnd, hs => by
  simp only [chargenetref49_Positions_l108, chargenetref49_Positions_b108]
  by_cases hi : i < o1.length
  ·rw [show decide ((i : Int) < (o1.length : Int)) = true by simpa using hi, cond_true]
   obtain ⟨o2, e, g1, g2⟩ := ins_l (fun t o => chargenetref49_Positions_l108 1000 o1 n t o) i 1000 i o (Nat.le_refl _) (by omega) (by omega) (by omega) hnd (fun a b hab hb na nb => hs a b hab (by omega)) (fun b hb hbi => by omega)
   rw [e, wsucc i (by omega)]
   obtain ⟨o', e2, g3, g4⟩ := sort_l o1 h1 n (i + 1) o2 (by omega) (by omega) (by rw [g1.length_eq]; exact hl) ((g1.map keyP).nodup_iff.2 hnd) (fun a b hab hb => g2 a b hab (by omega))
   exact ⟨o', e2, g3.trans g1, g4⟩
  ·rw [show decide ((i : Int) < (o1.length : Int)) = false from decide_eq_false (by omega), cond_false]
   refine ⟨o, rfl, List.Perm.refl _, ?_⟩
   rw [List.pairwise_iff_getElem]
   intro a b ha hb hab
   have := hs a b hab (by omega)
   have e1 : o.getD a dSPosition = o[a] := by simp [List.getD_eq_getElem?_getD, ha]
   have e2 : o.getD b dSPosition = o[b] := by simp [List.getD_eq_getElem?_getD, hb]
   rw [e1, e2] at this
   exact this
theorem PI.eqv {ps : List SPosition} {p p' : Pos} {CK CK' : ByteArray → ByteArray → Prop} (h : PI ps p CK) (hp : ∀ c k, p c k = p' c k) (hK : ∀ c k, CK c k ↔ CK' c k) : PI ps p' CK' :=
 ⟨h.nd, fun e he => (h.val e he).trans (hp _ _), fun c k => (h.mem c k).trans (hK c k), fun c k hne => (hK c k).1 (h.zero c k (by rw [hp]; exact hne))⟩
theorem con_boundB {t : SBalance} {B : Int} (h0 : 0 ≤ t.Amount) (h1 : t.Amount ≤ B) (c k : ByteArray) : -B ≤ con t c k ∧ con t c k ≤ B := by
 unfold con
 split <;> split <;> omega
theorem posOf_boundB : ∀ (l : List SBalance), (∀ t ∈ l, 0 ≤ t.Amount ∧ t.Amount ≤ 1125899906842624) → ∀ c k, -(1125899906842624 * (l.length : Int)) ≤ posOf l c k ∧ posOf l c k ≤ 1125899906842624 * (l.length : Int)
 | [], _, c, k => by simp [posOf]
 | t :: l, h, c, k => by
  have ih := posOf_boundB l (fun u hu => h u (List.mem_cons_of_mem _ hu)) c k
  obtain ⟨h0, h1⟩ := h t List.mem_cons_self
  have hc := con_boundB h0 h1 c k
  have e : posOf (t :: l) c k = con t c k + posOf l c k := by simp [posOf]
  rw [e, List.length_cons]
  omega
def CKl (l : List SBalance) (c k : ByteArray) : Prop := ∃ t ∈ l, c = t.Currency ∧ (k = t.Creditor ∨ k = t.Debtor)
theorem build_l (l : List SBalance) (hl : l.length ≤ 120) (hv : ∀ t ∈ l, t.Creditor ≠ t.Debtor ∧ 0 ≤ t.Amount ∧ t.Amount ≤ 1125899906842624) : ∀ (n i : Nat) (o : List SPosition), i ≤ l.length → l.length < n + i → o.length ≤ 2 * i → PI o (posOf (l.take i)) (CKl (l.take i)) →
  ∃ o', chargenetref49_Positions_l175 1000 l n (i : Int) o = chargenetref49_Positions_p160 1000 o' ∧ PI o' (posOf l) (CKl l) ∧ o'.length ≤ 2 * l.length
 | 0, i, o, h1, h2, _, _ => by omega
 | n + 1, i, o, h1, h2, ho, h => by
  simp only [chargenetref49_Positions_l175, chargenetref49_Positions_b175]
  by_cases hi : i < l.length
  ·obtain ⟨hne, a0, a1⟩ := hv l[i] (List.getElem_mem hi)
   have htk : l.take (i + 1) = l.take i ++ [l[i]] := by rw [List.take_add_one, List.getElem?_eq_getElem hi]; rfl
   have hb := posOf_boundB (l.take i) (fun t ht => (hv t (List.mem_of_mem_take ht)).2)
   have hln : (l.take i).length = i := by simp; omega
   rw [hln] at hb
   have b1 := hb l[i].Currency l[i].Creditor
   have b2 := hb l[i].Currency l[i].Debtor
   have q1 := h.add l[i].Currency l[i].Creditor l[i].Amount (by omega)
   have q2 := q1.add l[i].Currency l[i].Debtor (-l[i].Amount) (by rw [if_neg (fun e => hne e.2.symm)]; omega)
   have len1 := addS_len l[i].Currency l[i].Creditor l[i].Amount o
   have len2 := addS_len l[i].Currency l[i].Debtor (-l[i].Amount) (addS l[i].Currency l[i].Creditor l[i].Amount o)
   rw [show decide ((i : Int) < (l.length : Int)) = true by simpa using hi, cond_true, guard_pos (by omega), getD_nat l _ i hi, add_eq o (by omega), Option.bind_some, w64 (0 - l[i].Amount) (by omega), Int.zero_sub, add_eq _ (by omega), Option.bind_some, wsucc i (by omega)]
   refine build_l l hl hv n (i + 1) _ (by omega) (by omega) (by omega) (PI.eqv q2 (fun c k => ?_) (fun c k => ?_))
   ·rw [htk, posOf_append]
    by_cases hc : c = l[i].Currency
    ·by_cases hk : k = l[i].Creditor
     ·rw [hc, hk, if_neg (fun e => hne e.2), if_pos ⟨rfl, rfl⟩, con_cred hne]
     ·by_cases hk2 : k = l[i].Debtor
      ·rw [hc, hk2, if_pos ⟨rfl, rfl⟩, if_neg (fun e => hne e.2.symm), con_deb hne]
      ·rw [if_neg (fun e => hk2 e.2), if_neg (fun e => hk e.2), con_oth hk hk2]; omega
    ·rw [if_neg (fun e => hc e.1), if_neg (fun e => hc e.1), con_cur hc]; omega
   ·rw [htk]
    constructor
    ·rintro (hh | hh | ⟨u, hu, hh⟩)
     ·exact ⟨l[i], List.mem_append_right _ List.mem_cons_self, hh.1, .inr hh.2⟩
     ·exact ⟨l[i], List.mem_append_right _ List.mem_cons_self, hh.1, .inl hh.2⟩
     ·exact ⟨u, List.mem_append_left _ hu, hh⟩
    ·rintro ⟨u, hu, g1, g2⟩
     rcases List.mem_append.1 hu with hu | hu
     ·exact .inr (.inr ⟨u, hu, g1, g2⟩)
     ·simp only [List.mem_singleton] at hu
      rw [hu] at g1 g2
      rcases g2 with g2 | g2
      ·exact .inr (.inl ⟨g1, g2⟩)
      ·exact .inl ⟨g1, g2⟩
  ·rw [show decide ((i : Int) < (l.length : Int)) = false from decide_eq_false (by omega), cond_false]
   have : i = l.length := by omega
   subst this
   rw [List.take_length] at h
   exact ⟨o, rfl, h, ho⟩
theorem pos_eq (l : List SBalance) (hl : l.length ≤ 120) (hv : ∀ t ∈ l, t.Creditor ≠ t.Debtor ∧ 0 ≤ t.Amount ∧ t.Amount ≤ 1125899906842624) :
  ∃ ps, chargenetref49_Positions 1000 l = some ps ∧ PI ps (posOf l) (CKl l) ∧ ps.Pairwise ltP ∧ ps.length ≤ 2 * l.length := by
 unfold chargenetref49_Positions
 obtain ⟨o, e, h, hlen⟩ := build_l l hl hv 1000 0 [] (by omega) (by omega) (by simp) ⟨by simp, by simp, fun c k => by simp [CKl], fun c k hne => absurd rfl hne⟩
 simp only [Int.natCast_zero] at e
 rw [e]
 unfold chargenetref49_Positions_p160
 obtain ⟨o', e2, g1, g2⟩ := sort_l o (by omega) 1000 0 o (by omega) (by omega) rfl h.nd (fun a b _ hb => by omega)
 simp only [Int.natCast_zero] at e2
 exact ⟨o', e2, ⟨(g1.map keyP).nodup_iff.2 h.nd, fun x hx => h.val x (g1.mem_iff.1 hx), fun c k => by rw [(g1.map keyP).mem_iff]; exact h.mem c k, h.zero⟩, g2, by rw [g1.length_eq]; exact hlen⟩
end Positions
end Go.Proofs.Ytoncfkdgddfnlaa.M
