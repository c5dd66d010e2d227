/- Plain laws of chapter 49: what the function Net returns. -/
import Derived.Test.YtoncfkdgddfnlaaPlainE
namespace Go.Proofs.Ytoncfkdgddfnlaa.M
open Go Go.Proofs.Ytoncfkdgddfnlaa.E Go.Proofs.Ytoncfkdgddfnlaa.W
set_option linter.unusedVariables false
set_option linter.unusedSimpArgs false
theorem alook_keys {α : Type} (s : ByteArray) : ∀ (l : List (ByteArray × α)), (alook l s).isSome = true ↔ s ∈ l.map Prod.fst
 | [] => by simp [alook_nil]
 | (k, v) :: l => by
  rw [alook_cons]
  by_cases h : sEq s k = true
  ·rw [if_pos h]; simp [(sEq_iff s k).1 h]
  ·rw [if_neg h, alook_keys s l]
   have : s ≠ k := fun e => h ((sEq_iff s k).2 e)
   simp [this]
theorem aset_keys {α : Type} (s : ByteArray) (v : α) : ∀ (l : List (ByteArray × α)), (aset l s v).map Prod.fst = if (alook l s).isSome = true then l.map Prod.fst else l.map Prod.fst ++ [s]
 | [] => by simp [aset_nil, alook_nil]
 | (k, w) :: l => by
  rw [aset_cons, alook_cons]
  by_cases h : sEq s k = true
  ·rw [if_pos h, if_pos h]; simp [(sEq_iff s k).1 h]
  ·rw [if_neg h, if_neg h, List.map_cons, aset_keys s v l]
   split <;> simp
theorem aset_nodup {α : Type} {s : ByteArray} {v : α} {l : List (ByteArray × α)} (h : (l.map Prod.fst).Nodup) : ((aset l s v).map Prod.fst).Nodup := by
 rw [aset_keys]
 split
 ·exact h
 ·rename_i hn
  rw [alook_keys] at hn
  rw [List.nodup_append]
  refine ⟨h, by simp, fun a ha b hb => ?_⟩
  simp only [List.mem_singleton] at hb
  subst hb
  exact fun e => hn (by rw [← e]; exact ha)
theorem aset_len {α : Type} {s : ByteArray} {v : α} {l : List (ByteArray × α)} : (aset l s v).length ≤ l.length + 1 := by
 have h := congrArg List.length (aset_keys s v l)
 rw [List.length_map] at h
 rw [h]
 split <;> simp
abbrev MM := List (ByteArray × List (ByteArray × Int))
def rdM (s : MM) (c : ByteArray) : List (ByteArray × Int) := (alook s c).getD []
theorem rdM_set (s : MM) (c0 : ByteArray) (m : List (ByteArray × Int)) (c : ByteArray) : rdM (aset s c0 m) c = if c = c0 then m else rdM s c := by
 unfold rdM
 rw [alook_aset]
 by_cases h : c = c0
 ·rw [if_pos ((sEq_iff _ _).2 h), if_pos h]; rfl
 ·rw [if_neg (fun e => h ((sEq_iff _ _).1 e)), if_neg h]
structure MI (s : MM) (p : Pos) (C : ByteArray → Prop) (CK : ByteArray → ByteArray → Prop) (N1 N2 : Nat) : Prop where
 val : ∀ c k, (alook (rdM s c) k).getD 0 = p c k
 has : ∀ c, (alook s c).isSome = true ↔ C c
 has2 : ∀ c k, (alook (rdM s c) k).isSome = true ↔ CK c k
 nd : (s.map Prod.fst).Nodup
 nd2 : ∀ c, ((rdM s c).map Prod.fst).Nodup
 len : s.length ≤ N1
 len2 : ∀ c, (rdM s c).length ≤ N2
theorem some_aset {α : Type} (l : List (ByteArray × α)) (s : ByteArray) (v : α) (t : ByteArray) : (alook (aset l s v) t).isSome = true ↔ t = s ∨ (alook l t).isSome = true := by
 rw [alook_aset]
 by_cases h : t = s
 ·rw [if_pos ((sEq_iff _ _).2 h)]; simp [h]
 ·rw [if_neg (fun e => h ((sEq_iff _ _).1 e))]; simp [h]
theorem MI.put {s : MM} {p : Pos} {C : ByteArray → Prop} {CK : ByteArray → ByteArray → Prop} {N1 N2 : Nat} (h : MI s p C CK N1 N2) (c0 k0 : ByteArray) (v : Int) :
  MI (aset s c0 (aset (rdM s c0) k0 v)) (fun c k => if c = c0 ∧ k = k0 then v else p c k) (fun c => c = c0 ∨ C c) (fun c k => (c = c0 ∧ k = k0) ∨ CK c k) (N1 + 1) (N2 + 1) := by
 refine ⟨fun c k => ?_, fun c => ?_, fun c k => ?_, aset_nodup h.nd, fun c => ?_, Nat.le_trans aset_len (by have := h.len; omega), fun c => ?_⟩
 ·rw [rdM_set]
  by_cases hc : c = c0
  ·subst hc
   rw [if_pos rfl, alook_aset]
   by_cases hk : k = k0
   ·rw [if_pos ((sEq_iff _ _).2 hk), if_pos ⟨rfl, hk⟩]; rfl
   ·rw [if_neg (fun e => hk ((sEq_iff _ _).1 e)), if_neg (fun e => hk e.2)]; exact h.val c k
  ·rw [if_neg hc, if_neg (fun e => hc e.1)]; exact h.val c k
 ·rw [some_aset, h.has]
 ·rw [rdM_set]
  by_cases hc : c = c0
  ·subst hc
   rw [if_pos rfl, some_aset, h.has2]; simp
  ·rw [if_neg hc, h.has2]; simp [hc]
 ·rw [rdM_set]
  split
  ·exact aset_nodup (h.nd2 c0)
  ·exact h.nd2 c
 ·rw [rdM_set]
  split
  ·exact Nat.le_trans aset_len (by have := h.len2 c0; omega)
  ·have := h.len2 c; omega
theorem MI.fresh {s : MM} {p : Pos} {C : ByteArray → Prop} {CK : ByteArray → ByteArray → Prop} {N1 N2 : Nat} (h : MI s p C CK N1 N2) (c0 : ByteArray) (hs : (alook s c0).isSome = false) :
  MI (aset (s ++ [(c0, [])]) c0 []) p (fun c => c = c0 ∨ C c) CK (N1 + 2) N2 := by
 have e0 : s ++ [(c0, ([] : List (ByteArray × Int)))] = aset s c0 [] := by unfold aset; rw [alook_no hs]
 rw [e0]
 have e1 : ∀ c, rdM (aset (aset s c0 []) c0 []) c = rdM s c := fun c => by
  rw [rdM_set, rdM_set]
  by_cases hc : c = c0
  ·subst hc
   rw [if_pos rfl]
   unfold rdM
   have : alook s c = none := by simpa using hs
   rw [this]; rfl
  ·rw [if_neg hc, if_neg hc]
 refine ⟨fun c k => by rw [e1]; exact h.val c k, fun c => ?_, fun c k => by rw [e1]; exact h.has2 c k, aset_nodup (aset_nodup h.nd), fun c => by rw [e1]; exact h.nd2 c, Nat.le_trans aset_len (by have := h.len; have := aset_len (s := c0) (v := ([] : List (ByteArray × Int))) (l := s); omega), fun c => by rw [e1]; exact h.len2 c⟩
 rw [some_aset, some_aset, h.has]
 constructor
 ·rintro (h | h | h)
  ·exact .inl h
  ·exact .inl h
  ·exact .inr h
 ·rintro (h | h)
  ·exact .inl h
  ·exact .inr (.inr h)
def MIl (s : MM) (l : List SBalance) : Prop := MI s (posOf l) (fun c => ∃ t ∈ l, c = t.Currency) (fun c k => ∃ t ∈ l, c = t.Currency ∧ (k = t.Creditor ∨ k = t.Debtor)) (4 * l.length) (2 * l.length)
theorem MI.eqv {s : MM} {p p' : Pos} {C C' : ByteArray → Prop} {CK CK' : ByteArray → ByteArray → Prop} {N1 N2 M1 M2 : Nat} (h : MI s p C CK N1 N2) (hp : ∀ c k, p c k = p' c k) (hC : ∀ c, C c ↔ C' c) (hK : ∀ c k, CK c k ↔ CK' c k) (h1 : N1 ≤ M1) (h2 : N2 ≤ M2) : MI s p' C' CK' M1 M2 :=
 ⟨fun c k => (h.val c k).trans (hp c k), fun c => (h.has c).trans (hC c), fun c k => (h.has2 c k).trans (hK c k), h.nd, h.nd2, Nat.le_trans h.len h1, fun c => Nat.le_trans (h.len2 c) h2⟩
theorem posOf_append (l : List SBalance) (t : SBalance) (c k : ByteArray) : posOf (l ++ [t]) c k = posOf l c k + con t c k := by simp [posOf, List.sum_append]
theorem con_bound {t : SBalance} (h0 : 0 ≤ t.Amount) (h1 : t.Amount ≤ 1099511627776) (c k : ByteArray) : -1099511627776 ≤ con t c k ∧ con t c k ≤ 1099511627776 := by
 unfold con
 split <;> split <;> omega
theorem posOf_bound : ∀ (l : List SBalance), (∀ t ∈ l, 0 ≤ t.Amount ∧ t.Amount ≤ 1099511627776) → ∀ c k, -(1099511627776 * (l.length : Int)) ≤ posOf l c k ∧ posOf l c k ≤ 1099511627776 * (l.length : Int)
 | [], _, c, k => by simp [posOf]
 | t :: l, h, c, k => by
  have ih := posOf_bound l (fun u hu => h u (List.mem_cons_of_mem _ hu)) c k
  obtain ⟨h0, h1⟩ := h t List.mem_cons_self
  have hc := con_bound h0 h1 c k
  have e : posOf (t :: l) c k = con t c k + posOf l c k := by simp [posOf]
  rw [e, List.length_cons]
  omega
theorem p50_eq (l : List SBalance) (i : Nat) (hi : i < l.length) (kl : Int → MM → Option ((List SBalance) × Int)) (s : MM) (h1 : (alook s l[i].Currency).isSome = true) :
  settle_Net_p50 l (i : Int) kl s = kl (IntKind.wrap .i64 ((i : Int) + 1)) (aset (aset s l[i].Currency (aset (rdM s l[i].Currency) l[i].Creditor (IntKind.wrap .i64 ((alook (rdM s l[i].Currency) l[i].Creditor).getD 0 + l[i].Amount)))) l[i].Currency
   (aset (rdM (aset s l[i].Currency (aset (rdM s l[i].Currency) l[i].Creditor (IntKind.wrap .i64 ((alook (rdM s l[i].Currency) l[i].Creditor).getD 0 + l[i].Amount)))) l[i].Currency) l[i].Debtor
    (IntKind.wrap .i64 ((alook (rdM (aset s l[i].Currency (aset (rdM s l[i].Currency) l[i].Creditor (IntKind.wrap .i64 ((alook (rdM s l[i].Currency) l[i].Creditor).getD 0 + l[i].Amount)))) l[i].Currency) l[i].Debtor).getD 0 - l[i].Amount)))) := by
 unfold settle_Net_p50
 rw [getD_nat l _ i hi, guard_pos h1, guard_pos (by rw [some_aset]; exact .inl rfl)]
 rfl
theorem bal_step {s : MM} {l : List SBalance} {t : SBalance} {N1 : Nat} (hne : t.Creditor ≠ t.Debtor) (ht : 0 ≤ t.Amount ∧ t.Amount ≤ 1099511627776) (hl : l.length ≤ 120) (hla : ∀ t ∈ l, 0 ≤ t.Amount ∧ t.Amount ≤ 1099511627776)
  (h : MI s (posOf l) (fun c => c = t.Currency ∨ ∃ u ∈ l, c = u.Currency) (fun c k => ∃ t ∈ l, c = t.Currency ∧ (k = t.Creditor ∨ k = t.Debtor)) N1 (2 * l.length)) (hN : N1 ≤ 4 * l.length + 2) :
  MIl (aset (aset s t.Currency (aset (rdM s t.Currency) t.Creditor (IntKind.wrap .i64 ((alook (rdM s t.Currency) t.Creditor).getD 0 + t.Amount)))) t.Currency
   (aset (rdM (aset s t.Currency (aset (rdM s t.Currency) t.Creditor (IntKind.wrap .i64 ((alook (rdM s t.Currency) t.Creditor).getD 0 + t.Amount)))) t.Currency) t.Debtor
    (IntKind.wrap .i64 ((alook (rdM (aset s t.Currency (aset (rdM s t.Currency) t.Creditor (IntKind.wrap .i64 ((alook (rdM s t.Currency) t.Creditor).getD 0 + t.Amount)))) t.Currency) t.Debtor).getD 0 - t.Amount)))) (l ++ [t]) := by
 have hb := posOf_bound l hla
 have h1 := h.put t.Currency t.Creditor (IntKind.wrap .i64 ((alook (rdM s t.Currency) t.Creditor).getD 0 + t.Amount))
 have h2 := h1.put t.Currency t.Debtor (IntKind.wrap .i64 ((alook (rdM (aset s t.Currency (aset (rdM s t.Currency) t.Creditor (IntKind.wrap .i64 ((alook (rdM s t.Currency) t.Creditor).getD 0 + t.Amount)))) t.Currency) t.Debtor).getD 0 - t.Amount))
 refine h2.eqv (fun c k => ?_) (fun c => ?_) (fun c k => ?_) (by simp; omega) (by simp; omega)
 ·have b1 := hb t.Currency t.Creditor
  have b2 := hb t.Currency t.Debtor
  have v1 := h1.val t.Currency t.Debtor
  rw [if_neg (fun e => hne e.2.symm)] at v1
  simp only [h.val] at v1 ⊢
  rw [v1, posOf_append]
  by_cases hc : c = t.Currency
  ·by_cases hk : k = t.Creditor
   ·subst hc hk
    rw [if_neg (fun e => hne e.2), if_pos ⟨rfl, rfl⟩, con_cred hne, w64 _ (by omega)]
   ·by_cases hk2 : k = t.Debtor
    ·subst hc hk2
     rw [if_pos ⟨rfl, rfl⟩, con_deb hne, w64 _ (by omega)]; omega
    ·rw [if_neg (fun e => hk2 e.2), if_neg (fun e => hk e.2), con_oth hk hk2]; omega
  ·rw [if_neg (fun e => hc e.1), if_neg (fun e => hc e.1), con_cur hc]; omega
 ·constructor
  ·rintro (h | h | h | ⟨u, hu, h⟩)
   ·exact ⟨t, by simp, h⟩
   ·exact ⟨t, by simp, h⟩
   ·exact ⟨t, by simp, h⟩
   ·exact ⟨u, by simp [hu], h⟩
  ·rintro ⟨u, hu, hq⟩
   rcases List.mem_append.1 hu with hu | hu
   ·exact .inr (.inr (.inr ⟨u, hu, hq⟩))
   ·simp only [List.mem_singleton] at hu; rw [hu] at hq; exact .inl hq
 ·constructor
  ·rintro (h | h | ⟨u, hu, h⟩)
   ·exact ⟨t, by simp, h.1, .inr h.2⟩
   ·exact ⟨t, by simp, h.1, .inl h.2⟩
   ·exact ⟨u, by simp [hu], h⟩
  ·rintro ⟨u, hu, q1, q2⟩
   rcases List.mem_append.1 hu with hu | hu
   ·exact .inr (.inr ⟨u, hu, q1, q2⟩)
   ·simp only [List.mem_singleton] at hu
    rw [hu] at q1 q2
    rcases q2 with q2 | q2
    ·exact .inr (.inl ⟨q1, q2⟩)
    ·exact .inl ⟨q1, q2⟩
theorem sums_l (l : List SBalance) (hl : l.length ≤ 120) (hv : ∀ t ∈ l, cE t = 0) : ∀ (n i : Nat) (s : MM), i ≤ l.length → l.length < n + i → MIl s (l.take i) → ∃ s', settle_Net_l44 1000 l n (i : Int) s = settle_Net_p27 1000 s' ∧ MIl s' l
 | 0, i, s, h1, h2, _ => by omega
 | n + 1, i, s, h1, h2, h => by
  simp only [settle_Net_l44, settle_Net_b44]
  by_cases hi : i < l.length
  ·obtain ⟨_, _, hne, _, a0, a1⟩ := cE_ok (hv l[i] (List.getElem_mem hi))
   have hta : ∀ t ∈ l.take i, 0 ≤ t.Amount ∧ t.Amount ≤ 1099511627776 := fun t ht => by
    obtain ⟨_, _, _, _, b0, b1⟩ := cE_ok (hv t (List.mem_of_mem_take ht))
    exact ⟨b0, b1⟩
   have hln : (l.take i).length = i := by simp; omega
   have htk : l.take (i + 1) = l.take i ++ [l[i]] := by rw [List.take_add_one, List.getElem?_eq_getElem hi]; rfl
   rw [show decide ((i : Int) < (l.length : Int)) = true by simpa using hi, cond_true, guard_pos (by omega), getD_nat l _ i hi]
   rcases Bool.eq_false_or_eq_true (alook s l[i].Currency).isSome with hs | hs
   ·rw [hs, cond_true, p50_eq l i hi _ s hs, wsucc i (by omega)]
    refine sums_l l hl hv n (i + 1) _ (by omega) (by omega) ?_
    rw [htk]
    refine bal_step hne ⟨a0, a1⟩ (by omega) hta (h.eqv (fun _ _ => rfl) (fun c => ⟨fun hc => .inr hc, fun hc => ?_⟩) (fun _ _ => Iff.rfl) (Nat.le_refl _) (Nat.le_refl _)) (by omega)
    rcases hc with rfl | hc
    ·exact (h.has _).1 hs
    ·exact hc
   ·rw [hs, cond_false]
    have hf := h.fresh l[i].Currency hs
    rw [p50_eq l i hi _ _ ((hf.has _).2 (.inl rfl)), wsucc i (by omega)]
    refine sums_l l hl hv n (i + 1) _ (by omega) (by omega) ?_
    rw [htk]
    exact bal_step hne ⟨a0, a1⟩ (by omega) hta hf (by omega)
  ·rw [show decide ((i : Int) < (l.length : Int)) = false from decide_eq_false (by omega), cond_false]
   refine ⟨s, rfl, ?_⟩
   rw [List.take_of_length_le (by omega)] at h
   exact h
theorem ndS_of : ∀ {ks : List ByteArray}, ks.Nodup → ndS ks = true
 | [], _ => rfl
 | k :: r, h => by
  rw [List.nodup_cons] at h
  simp only [ndS, Bool.and_eq_true, Bool.not_eq_true']
  refine ⟨?_, ndS_of h.2⟩
  rw [List.any_eq_false]
  intro x hx he
  exact h.1 (by rw [(sEq_iff _ _).1 he]; exact hx)
theorem keysOk_of {ks : List ByteArray} (h1 : ks.Nodup) (h2 : ∀ k ∈ ks, k.size ≤ 1000) (h3 : ks.length ≤ 1000) : keysOk ks = true := by
 unfold keysOk
 rw [ndS_of h1, decide_eq_true (by omega : ks.length * 16 ≤ 140737488355328)]
 simp only [Bool.true_and, Bool.and_true, List.all_eq_true, decide_eq_true_eq]
 exact fun k hk => by have := h2 k hk; omega
theorem pay_l (l : List SBalance) (hl : l.length ≤ 120) (hv : ∀ t ∈ l, cE t = 0) (s : MM) (hs : MIl s l) (cs : List ByteArray) (hcs : sortB (s.map Prod.fst) = cs) : ∀ (n i : Nat) (out : List SBalance) (p : Pos), i ≤ cs.length → cs.length < n + i → out.length ≤ 400 * i →
  (∀ c k, (c ∈ cs.drop i → p c k = posOf l c k) ∧ (c ∉ cs.drop i → p c k = 0)) → ∃ ts q, settle_Net_l20 1000 s n (i : Int) out = some (out ++ ts, 0) ∧ Path p ts q ∧ ∀ c k, q c k = 0
 | 0, i, out, p, h1, h2, _, _ => by omega
 | n + 1, i, out, p, h1, h2, ho, hp => by
  have hasc : cs.Pairwise (fun a b => sLt a b = true) := by rw [← hcs]; exact sortB_asc _ hs.nd
  have hlen : cs.length ≤ 480 := by rw [← hcs, sortB_len, List.length_map]; have := hs.len; omega
  simp only [settle_Net_l20, settle_Net_b20, hcs]
  by_cases hi : i < cs.length
  ·have hdrop := List.drop_eq_getElem_cons hi
   have hmem : cs[i] ∈ cs.drop i := by rw [hdrop]; exact List.mem_cons_self
   have hin : cs[i] ∈ s.map Prod.fst := (sortB_perm _).mem_iff.1 (by rw [hcs]; exact List.getElem_mem hi)
   have hsome := (alook_keys _ _).2 hin
   have hafter : ∀ x ∈ cs.drop (i + 1), sLt cs[i] x = true := by
    have := hasc.drop (i := i)
    rw [hdrop, List.pairwise_cons] at this
    exact this.1
   have hnot : cs[i] ∉ cs.drop (i + 1) := fun hm => by
    have := hafter _ hm
    rw [sLt_irrefl] at this; cases this
   have hp1 : ∀ k, p cs[i] k = posOf l cs[i] k := fun k => (hp _ k).1 hmem
   have hk2 : ∀ k, k ∈ (rdM s cs[i]).map Prod.fst ↔ ∃ t ∈ l, cs[i] = t.Currency ∧ (k = t.Creditor ∨ k = t.Debtor) := fun k => by rw [← alook_keys]; exact hs.has2 _ _
   have hok : keysOk ((rdM s cs[i]).map Prod.fst) = true := by
    refine keysOk_of (hs.nd2 _) (fun k hk => ?_) (by rw [List.length_map]; have := hs.len2 cs[i]; omega)
    obtain ⟨t, ht, _, hk⟩ := (hk2 k).1 hk
    obtain ⟨i1, i2, _⟩ := cE_ok (hv t ht)
    rcases hk with rfl | rfl
    ·have := id_size i1; omega
    ·have := id_size i2; omega
   have hpe : p cs[i] = posOf l cs[i] := funext hp1
   have hb := posOf_bound l (fun t ht => by obtain ⟨_, _, _, _, b0, b1⟩ := cE_ok (hv t ht); exact ⟨b0, b1⟩)
   obtain ⟨ts, q, e1, e2, e3, e4, e5⟩ := net_eq (rdM s cs[i]) cs[i] p hok (by have := hs.len2 cs[i]; omega) (fun k => by rw [hs.val, hp1])
    ⟨(sortB_perm _).nodup_iff.2 (hs.nd2 _), fun k hk => (sortB_perm _).mem_iff.2 ((hk2 k).2 (posOf_supp l _ _ (by rw [← hp1]; exact hk))), by
     rw [hpe]
     exact posOf_sum l cs[i] _ ((sortB_perm _).nodup_iff.2 (hs.nd2 _)) (fun t ht hc => ⟨(sortB_perm _).mem_iff.2 ((hk2 _).2 ⟨t, ht, hc, .inl rfl⟩), (sortB_perm _).mem_iff.2 ((hk2 _).2 ⟨t, ht, hc, .inr rfl⟩)⟩)⟩
    (fun c' k hlt => (hp c' k).2 (fun hm => by
     rw [hdrop] at hm
     rcases List.mem_cons.1 hm with rfl | hm
     ·rw [sLt_irrefl] at hlt; cases hlt
     ·have := sLt_trans hlt (hafter _ hm)
      rw [sLt_irrefl] at this; cases this)) (fun k => by have := hb cs[i] k; rw [hp1]; omega)
   obtain ⟨ts2, q2, f1, f2, f3⟩ := pay_l l hl hv s hs cs hcs n (i + 1) (out ++ ts) q (by omega) (by omega) (by rw [List.length_append]; omega) (fun c k => by
    constructor
    ·intro hm
     have hne : c ≠ cs[i] := fun e => hnot (by rw [← e]; exact hm)
     rw [e4 c k hne]
     exact (hp c k).1 (by rw [hdrop]; exact List.mem_cons_of_mem _ hm)
    ·intro hm
     by_cases hc : c = cs[i]
     ·rw [hc]; exact e3 k
     ·rw [e4 c k hc]
      exact (hp c k).2 (fun hm2 => by
       rw [hdrop] at hm2
       rcases List.mem_cons.1 hm2 with h | h
       ·exact hc h
       ·exact hm h))
   rw [show decide ((i : Int) < (cs.length : Int)) = true by simpa using hi, cond_true, guard_pos (by omega), getD_nat cs _ i hi, guard_pos hsome]
   have e1' : settle_net 1000 ((alook s cs[i]).getD []) cs[i] = some ts := e1
   rw [e1', Option.bind_some, guard_pos (by omega), wsucc i (by omega), f1]
   exact ⟨ts ++ ts2, q2, by simp, e2.append f2, f3⟩
  ·rw [show decide ((i : Int) < (cs.length : Int)) = false from decide_eq_false (by omega), cond_false]
   refine ⟨[], p, by simp [settle_Net_p4], rfl, fun c k => (hp c k).2 ?_⟩
   rw [List.drop_eq_nil_of_le (by omega)]; simp
theorem Net_ok (l : List SBalance) (hl : l.length ≤ 120) (h : lE l = 0) : ∃ out q, settle_Net 1000 l = some (out, 0) ∧ Path (posOf l) out q ∧ ∀ c k, q c k = 0 := by
 have hv := lE_ok.1 h
 rw [Net_eq l (by omega), h]
 show ∃ out q, settle_Net_p52 1000 l = some (out, 0) ∧ _
 unfold settle_Net_p52
 obtain ⟨s, e, hs⟩ := sums_l l hl hv 1000 0 [] (by omega) (by omega) ⟨fun c k => by simp [rdM, alook_nil, posOf], fun c => by simp [alook_nil], fun c k => by simp [rdM, alook_nil], by simp, fun c => by simp [rdM, alook_nil], by simp, fun c => by simp [rdM, alook_nil]⟩
 simp only [Int.natCast_zero] at e
 rw [e]
 unfold settle_Net_p27
 have hlen := hs.len
 rw [guard_pos (keysOk_of hs.nd (fun c hc => by
  obtain ⟨t, ht, rfl⟩ := (hs.has c).1 ((alook_keys _ _).2 hc)
  obtain ⟨_, _, _, h4, _⟩ := cE_ok (hv t ht)
  have := cu_size h4; omega) (by rw [List.length_map]; omega))]
 obtain ⟨ts, q, e1, e2, e3⟩ := pay_l l hl hv s hs _ rfl 1000 0 [] (posOf l) (by omega) (by rw [sortB_len, List.length_map]; omega) (by simp) (fun c k => by
  refine ⟨fun _ => rfl, fun hm => ?_⟩
  apply Decidable.byContradiction
  intro hne
  obtain ⟨t, ht, hc, _⟩ := posOf_supp l c k hne
  apply hm
  rw [List.drop_zero]
  exact (sortB_perm _).mem_iff.2 ((alook_keys _ _).1 ((hs.has c).2 ⟨t, ht, hc⟩)))
 simp only [Int.natCast_zero] at e1
 exact ⟨ts, q, by rw [e1]; rfl, e2, e3⟩
end Go.Proofs.Ytoncfkdgddfnlaa.M
