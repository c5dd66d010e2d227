/- Plain laws of chapter 49: what the reference's function Net returns. -/
import Derived.Test.YtoncfkdgddfnlaaPlainH
namespace Go.Proofs.Ytoncfkdgddfnlaa.M
open Go Go.Proofs.Ytoncfkdgddfnlaa.E Go.Proofs.Ytoncfkdgddfnlaa.W
set_option linter.unusedVariables false
set_option linter.unusedSimpArgs false
structure IM (f : Nat → Int) (Q : Nat → Prop) (len m i : Nat) : Prop where
 lt : m < len
 q : Q m
 mx : ∀ j, j < i → Q j → f j ≤ f m ∧ (f j = f m → m ≤ j)
theorem IM.skip {f : Nat → Int} {Q : Nat → Prop} {len m i : Nat} (h : IM f Q len m i) (hq : ¬ Q i) : IM f Q len m (i + 1) :=
 ⟨h.lt, h.q, fun j hj hQ => h.mx j (by rcases Nat.lt_succ_iff_lt_or_eq.1 hj with h | h; exact h; exact absurd (h ▸ hQ) hq) hQ⟩
theorem IM.keep {f : Nat → Int} {Q : Nat → Prop} {len m i : Nat} (h : IM f Q len m i) (h1 : ¬ f m < f i) (h2 : ¬ (f i = f m ∧ i < m)) : IM f Q len m (i + 1) := by
 refine ⟨h.lt, h.q, fun j hj hQ => ?_⟩
 by_cases hji : j = i
 ·subst hji; exact ⟨by omega, fun he => by omega⟩
 ·exact h.mx j (by omega) hQ
theorem IM.move {f : Nat → Int} {Q : Nat → Prop} {len m i : Nat} (h : IM f Q len m i) (hi : i < len) (hq : Q i) (h1 : f m < f i ∨ (f i = f m ∧ i < m)) : IM f Q len i (i + 1) := by
 refine ⟨hi, hq, fun j hj hQ => ?_⟩
 by_cases hji : j = i
 ·subst hji; exact ⟨Int.le_refl _, fun _ => Nat.le_refl _⟩
 ·have := h.mx j (by omega) hQ
  exact ⟨by omega, fun he => by omega⟩
abbrev am (ps : List SPosition) (j : Nat) : Int := (ps.getD j dSPosition).Amount
theorem p208_eq (ps : List SPosition) (le : Nat) (i : Nat) (kl : Int → Int → Int → Option (Int × Int × Bool)) (m : Int) (h : le < ps.length) (hl : ps.length ≤ 900) (hi : i < ps.length) :
  chargenetref49_extremes_p208 ps (le : Int) (i : Int) kl m = kl m ((if am ps i < am ps le ∨ (am ps i = am ps le ∧ i < le) then i else le : Nat) : Int) ((i + 1 : Nat) : Int) := by
 unfold chargenetref49_extremes_p208 chargenetref49_extremes_p199
 simp only [Int.toNat_natCast]
 rw [guard_pos (by omega), guard_pos (by omega), wsucc i (by omega)]
 by_cases h1 : am ps i < am ps le
 ·rw [decide_eq_true h1, cond_true, if_pos (.inl h1)]
 ·rw [decide_eq_false h1, cond_false]
  by_cases h2 : am ps i = am ps le
  ·rw [decide_eq_true h2, cond_true]
   by_cases h3 : i < le
   ·rw [decide_eq_true (by omega), cond_true, if_pos (.inr ⟨h2, h3⟩)]
   ·rw [decide_eq_false (by omega), cond_false, if_neg (by omega)]
  ·rw [decide_eq_false h2, cond_false, if_neg (by omega)]
theorem ext_l (ps : List SPosition) (hl : ps.length ≤ 900) (t : Nat) : ∀ (n m le i : Nat), i ≤ ps.length → ps.length < n + i →
  IM (am ps) (fun j => (ps.getD j dSPosition).Currency = (ps.getD t dSPosition).Currency) ps.length m i → IM (fun j => -am ps j) (fun j => (ps.getD j dSPosition).Currency = (ps.getD t dSPosition).Currency) ps.length le i →
  ∃ m' l' : Nat, chargenetref49_extremes_l195 ps (t : Int) n (m : Int) (le : Int) (i : Int) = some ((m' : Int), (l' : Int), true) ∧ IM (am ps) (fun j => (ps.getD j dSPosition).Currency = (ps.getD t dSPosition).Currency) ps.length m' ps.length ∧ IM (fun j => -am ps j) (fun j => (ps.getD j dSPosition).Currency = (ps.getD t dSPosition).Currency) ps.length l' ps.length
 | 0, m, le, i, h1, h2, _, _ => by omega
 | n + 1, m, le, i, h1, h2, hm, hle => by
  simp only [chargenetref49_extremes_l195, chargenetref49_extremes_b195]
  have m1 := hm.lt
  have l1 := hle.lt
  by_cases hi : i < ps.length
  ·rw [show decide ((i : Int) < (ps.length : Int)) = true by simpa using hi, cond_true, guard_pos (by omega)]
   simp only [Int.toNat_natCast]
   by_cases hq : (ps.getD i dSPosition).Currency = (ps.getD t dSPosition).Currency
   ·rw [(sEq_iff _ _).2 hq, Bool.not_true, cond_false, guard_pos (by omega), guard_pos (by omega)]
    rw [p208_eq ps le i _ _ l1 hl hi, p208_eq ps le i _ _ l1 hl hi]
    have hle' : IM (fun j => -am ps j) (fun j => (ps.getD j dSPosition).Currency = (ps.getD t dSPosition).Currency) ps.length (if am ps i < am ps le ∨ (am ps i = am ps le ∧ i < le) then i else le) (i + 1) := by
     split
     ·rename_i hh
      exact hle.move hi hq (by omega)
     ·rename_i hh
      exact hle.keep (by omega) (by omega)
    by_cases c1 : am ps m < am ps i
    ·rw [decide_eq_true c1, cond_true]
     exact ext_l ps hl t n i _ (i + 1) (by omega) (by omega) (hm.move hi hq (.inl c1)) hle'
    ·rw [decide_eq_false c1, cond_false]
     by_cases c2 : am ps i = am ps m
     ·rw [decide_eq_true c2, cond_true]
      by_cases c3 : i < m
      ·rw [decide_eq_true (by omega), cond_true]
       exact ext_l ps hl t n i _ (i + 1) (by omega) (by omega) (hm.move hi hq (.inr ⟨c2, c3⟩)) hle'
      ·rw [decide_eq_false (by omega), cond_false]
       exact ext_l ps hl t n m _ (i + 1) (by omega) (by omega) (hm.keep c1 (by omega)) hle'
     ·rw [decide_eq_false c2, cond_false]
      exact ext_l ps hl t n m _ (i + 1) (by omega) (by omega) (hm.keep c1 (by omega)) hle'
   ·rw [(sEq_false _ _).2 hq, Bool.not_false, cond_true]
    unfold chargenetref49_extremes_p199
    rw [wsucc i (by omega)]
    exact ext_l ps hl t n m le (i + 1) (by omega) (by omega) (hm.skip hq) (hle.skip hq)
  ·rw [show decide ((i : Int) < (ps.length : Int)) = false from decide_eq_false (by omega), cond_false]
   have : i = ps.length := by omega
   subst this
   exact ⟨m, le, rfl, hm, hle⟩
theorem find_l (ps : List SPosition) (hl : ps.length ≤ 900) : ∀ (n i : Nat), i ≤ ps.length → ps.length < n + i → (∀ j, j < i → am ps j = 0) →
  ((∀ j, j < ps.length → am ps j = 0) ∧ chargenetref49_extremes_l148 1000 ps n (i : Int) = some (0, 0, false)) ∨
  ∃ t m l : Nat, t < ps.length ∧ (∀ j, j < t → am ps j = 0) ∧ am ps t ≠ 0 ∧ chargenetref49_extremes_l148 1000 ps n (i : Int) = some ((m : Int), (l : Int), true) ∧ IM (am ps) (fun j => (ps.getD j dSPosition).Currency = (ps.getD t dSPosition).Currency) ps.length m ps.length ∧ IM (fun j => -am ps j) (fun j => (ps.getD j dSPosition).Currency = (ps.getD t dSPosition).Currency) ps.length l ps.length
 | 0, i, h1, h2, _ => by omega
 | n + 1, i, h1, h2, h => by
  simp only [chargenetref49_extremes_l148, chargenetref49_extremes_b148]
  by_cases hi : i < ps.length
  ·rw [show decide ((i : Int) < (ps.length : Int)) = true by simpa using hi, cond_true, guard_pos (by omega)]
   simp only [Int.toNat_natCast]
   by_cases h0 : am ps i = 0
   ·rw [decide_eq_true h0, cond_true]
    unfold chargenetref49_extremes_p150
    rw [wsucc i (by omega)]
    exact find_l ps hl n (i + 1) (by omega) (by omega) (fun j hj => by
     by_cases hji : j = i
     ·rw [hji]; exact h0
     ·exact h j (by omega))
   ·rw [decide_eq_false h0, cond_false]
    obtain ⟨m, l, e, g1, g2⟩ := ext_l ps hl i 1000 i i 0 (by omega) (by omega) ⟨hi, rfl, fun j hj => by omega⟩ ⟨hi, rfl, fun j hj => by omega⟩
    exact .inr ⟨i, m, l, hi, h, h0, e, g1, g2⟩
  ·rw [show decide ((i : Int) < (ps.length : Int)) = false from decide_eq_false (by omega), cond_false]
   exact .inl ⟨fun j hj => h j (by omega), rfl⟩
theorem b32_go (kl : List SPosition → List SBalance → Option ((List SBalance) × Int)) (ps : List SPosition) (out : List SBalance) (m l : Nat) (he : chargenetref49_extremes 1000 ps = some ((m : Int), (l : Int), true)) (hm : m < ps.length) (hl : l < ps.length) (hml : m ≠ l)
  (b1 : -1152921504606846976 ≤ am ps m ∧ am ps m ≤ 1152921504606846976) (b2 : -1152921504606846976 ≤ am ps l ∧ am ps l ≤ 1152921504606846976) (ho : out.length ≤ 900) :
  chargenetref49_Net_b32 1000 kl ps out = kl ((ps.set m (SPosition.mk (ps.getD m dSPosition).Currency (ps.getD m dSPosition).Party (am ps m - amtOf (am ps m) (am ps l)))).set l (SPosition.mk (ps.getD l dSPosition).Currency (ps.getD l dSPosition).Party (am ps l + amtOf (am ps m) (am ps l))))
   (out ++ [SBalance.mk (ps.getD m dSPosition).Party (ps.getD l dSPosition).Party (ps.getD m dSPosition).Currency (amtOf (am ps m) (am ps l))]) := by
 unfold chargenetref49_Net_b32
 rw [he, Option.bind_some]
 have b1' : -1152921504606846976 ≤ (ps.getD m dSPosition).Amount ∧ (ps.getD m dSPosition).Amount ≤ 1152921504606846976 := b1
 have b2' : -1152921504606846976 ≤ (ps.getD l dSPosition).Amount ∧ (ps.getD l dSPosition).Amount ≤ 1152921504606846976 := b2
 have e0 : (if IntKind.wrap .i64 (0 - (ps.getD l dSPosition).Amount) < (ps.getD m dSPosition).Amount then IntKind.wrap .i64 (0 - (ps.getD l dSPosition).Amount) else (ps.getD m dSPosition).Amount) = amtOf (am ps m) (am ps l) := by
  rw [w64 _ (by omega), Int.zero_sub]; rfl
 have ha : -1152921504606846976 ≤ amtOf (am ps m) (am ps l) ∧ amtOf (am ps m) (am ps l) ≤ 1152921504606846976 := by unfold amtOf; split <;> omega
 have e1 : ∀ v, (ps.set m v).getD l dSPosition = ps.getD l dSPosition := fun v => by
  rw [List.getD_eq_getElem?_getD, List.getElem?_set_ne hml, ← List.getD_eq_getElem?_getD]
 simp only [Bool.not_true, cond_false, Int.toNat_natCast, e0, e1, List.length_set]
 rw [guard_pos (by omega), guard_pos (by omega), guard_pos (by omega), guard_pos (by omega), guard_pos (by omega), guard_pos (by simp; omega), guard_pos (by omega), guard_pos (by omega), guard_pos (by omega), guard_pos (by omega), w64 ((ps.getD m dSPosition).Amount - _) (by omega), w64 ((ps.getD l dSPosition).Amount + _) (by omega)]
theorem b32_stop (kl : List SPosition → List SBalance → Option ((List SBalance) × Int)) (ps : List SPosition) (out : List SBalance) (he : chargenetref49_extremes 1000 ps = some (0, 0, false)) : chargenetref49_Net_b32 1000 kl ps out = some (out, 0) := by
 unfold chargenetref49_Net_b32
 rw [he, Option.bind_some]; rfl
theorem keys_set {ps : List SPosition} {m : Nat} {v : SPosition} (hm : m < ps.length) (hk : keyP v = keyP (ps.getD m dSPosition)) : (ps.set m v).map keyP = ps.map keyP := by
 rw [List.map_set, hk]
 have e : ps.getD m dSPosition = ps[m] := by simp [List.getD_eq_getElem?_getD, hm]
 rw [e]
 have : keyP ps[m] = (ps.map keyP)[m]'(by simpa using hm) := by simp
 rw [this, List.set_getElem_self]
theorem ltP_idx {ps : List SPosition} (h : ps.Pairwise ltP) {a b : Nat} (ha : a < ps.length) (hb : b < ps.length) (hlt : ltP (ps.getD a dSPosition) (ps.getD b dSPosition)) : a < b := by
 have e1 : ps.getD a dSPosition = ps[a] := by simp [List.getD_eq_getElem?_getD, ha]
 have e2 : ps.getD b dSPosition = ps[b] := by simp [List.getD_eq_getElem?_getD, hb]
 rw [e1, e2] at hlt
 rcases Nat.lt_trichotomy a b with q | q | q
 ·exact q
 ·subst q; exact absurd hlt (ltP_irrefl _)
 ·exact absurd (ltP_trans hlt (List.pairwise_iff_getElem.1 h b a hb ha q)) (ltP_irrefl _)
theorem mem_idx {ps : List SPosition} {c k : ByteArray} (h : (c, k) ∈ ps.map keyP) : ∃ j, j < ps.length ∧ (ps.getD j dSPosition).Currency = c ∧ (ps.getD j dSPosition).Party = k := by
 obtain ⟨e, he, hk⟩ := List.mem_map.1 h
 obtain ⟨j, hj, rfl⟩ := List.mem_iff_getElem.1 he
 refine ⟨j, hj, ?_⟩
 have e1 : ps.getD j dSPosition = ps[j] := by simp [List.getD_eq_getElem?_getD, hj]
 rw [e1]
 exact ⟨(Prod.mk.inj hk).1, (Prod.mk.inj hk).2⟩
theorem PI.at {ps : List SPosition} {p : Pos} {CK : ByteArray → ByteArray → Prop} (h : PI ps p CK) {j : Nat} (hj : j < ps.length) : am ps j = p (ps.getD j dSPosition).Currency (ps.getD j dSPosition).Party := by
 have e1 : ps.getD j dSPosition = ps[j] := by simp [List.getD_eq_getElem?_getD, hj]
 unfold am
 rw [e1]
 exact h.val _ (List.getElem_mem hj)
theorem pair_keys {a b : List SPosition} (h : a.map keyP = b.map keyP) (hb : b.Pairwise ltP) : a.Pairwise ltP := by
 have hlen : a.length = b.length := by have := congrArg List.length h; simpa using this
 rw [List.pairwise_iff_getElem] at hb ⊢
 intro i j hi hj hij
 have hk : ∀ x (hx : x < a.length), keyP a[x] = keyP (b[x]'(by omega)) := fun x hx => by
  have h1 : (a.map keyP)[x]? = (b.map keyP)[x]? := by rw [h]
  rw [List.getElem?_map, List.getElem?_map, List.getElem?_eq_getElem hx, List.getElem?_eq_getElem (show x < b.length by omega)] at h1
  exact Option.some.inj h1
 have hh := hb i j (by omega) (by omega) hij
 have k1 := Prod.mk.inj (hk i hi)
 have k2 := Prod.mk.inj (hk j hj)
 unfold ltP at hh ⊢
 rw [k1.1, k1.2, k2.1, k2.2]
 exact hh
theorem PI.step {ps : List SPosition} {p : Pos} {CK : ByteArray → ByteArray → Prop} (h : PI ps p CK) {m l : Nat} (hm : m < ps.length) (hl : l < ps.length) (hc : (ps.getD l dSPosition).Currency = (ps.getD m dSPosition).Currency) {a : Int} {t : SBalance} (ht : t = SBalance.mk (ps.getD m dSPosition).Party (ps.getD l dSPosition).Party (ps.getD m dSPosition).Currency a)
  (hs : StepR p t) : PI ((ps.set m (SPosition.mk (ps.getD m dSPosition).Currency (ps.getD m dSPosition).Party (am ps m - a))).set l (SPosition.mk (ps.getD l dSPosition).Currency (ps.getD l dSPosition).Party (am ps l + a))) (stepP p t) CK ∧
  ((ps.set m (SPosition.mk (ps.getD m dSPosition).Currency (ps.getD m dSPosition).Party (am ps m - a))).set l (SPosition.mk (ps.getD l dSPosition).Currency (ps.getD l dSPosition).Party (am ps l + a))).map keyP = ps.map keyP := by
 have hne := hs.ne
 have hml : m ≠ l := by
  intro e; subst e
  rw [ht] at hne; exact hne rfl
 have hk : ((ps.set m (SPosition.mk (ps.getD m dSPosition).Currency (ps.getD m dSPosition).Party (am ps m - a))).set l (SPosition.mk (ps.getD l dSPosition).Currency (ps.getD l dSPosition).Party (am ps l + a))).map keyP = ps.map keyP := by
  have e1 : ∀ v, (ps.set m v).getD l dSPosition = ps.getD l dSPosition := fun v => by
   rw [List.getD_eq_getElem?_getD, List.getElem?_set_ne hml, ← List.getD_eq_getElem?_getD]
  rw [keys_set (by simpa using hl) (by rw [e1]; rfl), keys_set hm (by rfl)]
 refine ⟨⟨by rw [hk]; exact h.nd, fun e he => ?_, fun c k => by rw [hk]; exact h.mem c k, fun c k hz => h.zero c k (hs.keeps c k hz)⟩, hk⟩
 obtain ⟨j, hj, rfl⟩ := List.mem_iff_getElem.1 he
 simp only [List.length_set] at hj
 have tc : t.Currency = (ps.getD m dSPosition).Currency := by rw [ht]
 have t1 : t.Creditor = (ps.getD m dSPosition).Party := by rw [ht]
 have t2 : t.Debtor = (ps.getD l dSPosition).Party := by rw [ht]
 have ta : t.Amount = a := by rw [ht]
 rw [List.getElem_set]
 by_cases h1 : l = j
 ·rw [if_pos h1]
  show am ps l + a = stepP p t (ps.getD l dSPosition).Currency (ps.getD l dSPosition).Party
  unfold stepP
  rw [hc, ← tc, ← t2, con_deb hne, h.at hl, hc, ← tc, ← t2, ta]; omega
 ·rw [if_neg h1, List.getElem_set]
  by_cases h2 : m = j
  ·rw [if_pos h2]
   show am ps m - a = stepP p t (ps.getD m dSPosition).Currency (ps.getD m dSPosition).Party
   unfold stepP
   rw [← tc, ← t1, con_cred hne, h.at hm, ← tc, ← t1, ta]
  ·rw [if_neg h2, h.val _ (List.getElem_mem hj)]
   have ej : ps.getD j dSPosition = ps[j] := by simp [List.getD_eq_getElem?_getD, hj]
   unfold stepP
   by_cases hcj : ps[j].Currency = t.Currency
   ·have n1 : ps[j].Party ≠ t.Creditor := fun e => h2 (Positions_own.nodup_key h.nd hm hj (by rw [ej]; simp only [keyP]; rw [hcj, e, tc, t1]))
    have n2 : ps[j].Party ≠ t.Debtor := fun e => h1 (Positions_own.nodup_key h.nd hl hj (by rw [ej]; simp only [keyP]; rw [hcj, e, tc, t2, hc]))
    rw [con_oth n1 n2]; omega
   ·rw [con_cur hcj]; omega
theorem ref_l (K : ByteArray → List ByteArray) (CK : ByteArray → ByteArray → Prop) (hK : ∀ c k, k ∈ K c ↔ CK c k) (KK : List (ByteArray × ByteArray)) : ∀ (n : Nat) (ps : List SPosition) (out : List SBalance) (p : Pos), PI ps p CK → ps.map keyP = KK → ps.length ≤ 400 → ps.Pairwise ltP → (∀ c, Fin1 (K c) (p c)) →
  (∀ c k, -1152921504606846976 ≤ p c k ∧ p c k ≤ 1152921504606846976) → nzq (fun _ => true) KK p < n → out.length + nzq (fun _ => true) KK p ≤ 900 → ∃ ts q, chargenetref49_Net_l32 1000 n ps out = some (out ++ ts, 0) ∧ Path p ts q ∧ ∀ c k, q c k = 0
 | 0, ps, out, p, _, _, _, _, _, _, hn, _ => by omega
 | n + 1, ps, out, p, h, hkk, hlen, hs, hF, hb, hn, ho => by
  simp only [chargenetref49_Net_l32]
  have hfind := find_l ps (by omega) 1000 0 (by omega) (by omega) (fun j hj => by omega)
  simp only [Int.natCast_zero] at hfind
  rcases hfind with ⟨hz, e⟩ | ⟨t, m, l, ht, hz, hne, e, hm, hl⟩
  ·rw [b32_stop _ ps out e]
   refine ⟨[], p, by simp, rfl, fun c k => ?_⟩
   apply Decidable.byContradiction
   intro hne
   obtain ⟨j, hj, e1, e2⟩ := mem_idx ((h.mem c k).2 (h.zero c k hne))
   have := h.at hj
   rw [e1, e2, hz j hj] at this
   exact hne this.symm
  ·have m1 := hm.lt
   have l1 := hl.lt
   have hmc : (ps.getD m dSPosition).Currency = (ps.getD t dSPosition).Currency := hm.q
   have hlc : (ps.getD l dSPosition).Currency = (ps.getD t dSPosition).Currency := hl.q
   have hat := h.at ht
   have ham := h.at m1
   have hal := h.at l1
   have hsupK : ∀ k ∈ K (ps.getD t dSPosition).Currency, ∃ j, j < ps.length ∧ (ps.getD j dSPosition).Currency = (ps.getD t dSPosition).Currency ∧ (ps.getD j dSPosition).Party = k := fun k hk => mem_idx ((h.mem _ _).2 ((hK _ _).1 hk))
   have hpos : 0 < am ps m := by
    apply Decidable.byContradiction
    intro hle
    apply hne
    rw [hat]
    refine (hF _).zero_of_max (fun k hk => ?_) _
    obtain ⟨j, hj, e1, e2⟩ := hsupK k hk
    have := (hm.mx j hj e1).1
    rw [h.at hj, e1, e2] at this
    omega
   have hneg : am ps l < 0 := by
    apply Decidable.byContradiction
    intro hle
    apply hne
    rw [hat]
    refine (hF _).zero_of_min (fun k hk => ?_) _
    obtain ⟨j, hj, e1, e2⟩ := hsupK k hk
    have h1 : -am ps j ≤ -am ps l := (hl.mx j hj e1).1
    rw [h.at hj, e1, e2] at h1
    omega
   have hml : m ≠ l := fun e => by subst e; omega
   rw [b32_go _ ps out m l e m1 l1 hml (by rw [ham]; exact hb _ _) (by rw [hal]; exact hb _ _) (by omega)]
   obtain ⟨u, hu⟩ : ∃ u, u = SBalance.mk (ps.getD m dSPosition).Party (ps.getD l dSPosition).Party (ps.getD m dSPosition).Currency (amtOf (am ps m) (am ps l)) := ⟨_, rfl⟩
   have uc : u.Currency = (ps.getD m dSPosition).Currency := by rw [hu]
   have u1 : u.Creditor = (ps.getD m dSPosition).Party := by rw [hu]
   have u2 : u.Debtor = (ps.getD l dSPosition).Party := by rw [hu]
   have ua : u.Amount = amtOf (am ps m) (am ps l) := by rw [hu]
   rw [← uc, ← u1] at ham
   rw [hlc, ← hmc, ← uc, ← u2] at hal
   have hst : StepR p u := by
    refine StepR.mk' (K := K u.Currency) (hF _).sup (fun c k hlt => ?_) (by omega) (by omega) (fun k hk => ?_) (fun k hk => ?_) (by rw [ua, ham, hal]; rfl)
    ·apply Decidable.byContradiction
     intro hnz
     obtain ⟨j, hj, e1, e2⟩ := mem_idx ((h.mem c k).2 (h.zero c k hnz))
     have hjt := ltP_idx hs hj ht (.inl (by rw [e1, ← hmc, ← uc]; exact hlt))
     have := hz j hjt
     rw [h.at hj, e1, e2] at this
     exact hnz this
    ·obtain ⟨j, hj, e1, e2⟩ := hsupK k (by rw [← hmc, ← uc]; exact hk)
     obtain ⟨g1, g2⟩ := hm.mx j hj e1
     rw [h.at hj, ham, e1, ← hmc, ← uc, e2] at g1 g2
     refine ⟨g1, fun he => ?_⟩
     rw [Bool.eq_false_iff]
     intro hlt
     have := g2 he
     have hjm := ltP_idx hs hj m1 (.inr ⟨by rw [e1, hmc], by rw [e2, ← u1]; exact hlt⟩)
     omega
    ·obtain ⟨j, hj, e1, e2⟩ := hsupK k (by rw [← hmc, ← uc]; exact hk)
     obtain ⟨g1, g2⟩ : -am ps j ≤ -am ps l ∧ (-am ps j = -am ps l → l ≤ j) := hl.mx j hj e1
     rw [h.at hj, hal, e1, ← hmc, ← uc, e2] at g1 g2
     refine ⟨by omega, fun he => ?_⟩
     rw [Bool.eq_false_iff]
     intro hlt
     have := g2 (by rw [he])
     have hjm := ltP_idx hs hj l1 (.inr ⟨by rw [e1, hlc], by rw [e2, ← u2]; exact hlt⟩)
     omega
   obtain ⟨h2, k2⟩ := h.step m1 l1 (hlc.trans hmc.symm) hu hst
   have hdec := (nzq_step (Q := fun _ => true) (KK := KK) hst rfl (fun c k hz => by rw [← hkk]; exact (h.mem c k).2 (h.zero c k hz))).1
   rw [← hu]
   obtain ⟨ts, q, f1, f2, f3⟩ := ref_l K CK hK KK n _ (out ++ [u]) (stepP p u) h2 (k2.trans hkk) (by simpa using hlen) (pair_keys k2 hs) (fun c => (hF c).step hst) (fun c k => hst.bound (hb c k)) (by omega) (by rw [List.length_append]; show out.length + 1 + _ ≤ _; omega)
   exact ⟨u :: ts, q, by rw [f1]; simp, ⟨hst, f2⟩, f3⟩
theorem ref_ok (l : List SBalance) (hl : l.length ≤ 120) (h : lE l = 0) : ∃ out q, chargenetref49_Net 1000 l = some (out, 0) ∧ Path (posOf l) out q ∧ ∀ c k, q c k = 0 := by
 have hv := lE_ok.1 h
 rw [ref_Net_eq l (by omega), h]
 show ∃ out q, chargenetref49_Net_p46 1000 l = some (out, 0) ∧ _
 unfold chargenetref49_Net_p46
 obtain ⟨ps, e, hPI, hs, hlen⟩ := Positions_own.pos_eq l hl (fun t ht => by obtain ⟨_, _, h3, _, h5, h6⟩ := cE_ok (hv t ht); exact ⟨h3, h5, by omega⟩)
 rw [e, Option.bind_some]
 have hKnd : ∀ c, ((ps.filter (fun e => decide (e.Currency = c))).map (·.Party)).Nodup := fun c => by
  have h1 : ((ps.filter (fun e => decide (e.Currency = c))).map keyP).Nodup := (List.filter_sublist.map keyP).nodup hPI.nd
  have h2 : (ps.filter (fun e => decide (e.Currency = c))).map keyP = ((ps.filter (fun e => decide (e.Currency = c))).map (·.Party)).map (fun k => (c, k)) := by
   rw [List.map_map]
   refine List.map_congr_left (fun x hx => ?_)
   have := of_decide_eq_true (List.mem_filter.1 hx).2
   simp [keyP, this]
  rw [h2] at h1
  rw [List.nodup_iff_pairwise_ne, List.pairwise_map] at h1
  rw [List.nodup_iff_pairwise_ne]
  exact h1.imp (fun hh e => hh (by rw [e]))
 have hK : ∀ c k, k ∈ (ps.filter (fun e => decide (e.Currency = c))).map (·.Party) ↔ Positions_own.CKl l c k := fun c k => by
  rw [← hPI.mem]
  constructor
  ·intro hk
   obtain ⟨x, hx, rfl⟩ := List.mem_map.1 hk
   obtain ⟨h1, h2⟩ := List.mem_filter.1 hx
   exact List.mem_map.2 ⟨x, h1, by simp [keyP, of_decide_eq_true h2]⟩
  ·intro hk
   obtain ⟨x, hx, hxk⟩ := List.mem_map.1 hk
   obtain ⟨h1, h2⟩ := Prod.mk.inj hxk
   exact List.mem_map.2 ⟨x, List.mem_filter.2 ⟨hx, decide_eq_true h1⟩, h2⟩
 have hb := posOf_bound l (fun t ht => by obtain ⟨_, _, _, _, b0, b1⟩ := cE_ok (hv t ht); exact ⟨b0, b1⟩)
 have hnz : nzq (fun _ => true) (ps.map keyP) (posOf l) ≤ 240 := Nat.le_trans (List.length_filter_le _ _) (by rw [List.length_map]; omega)
 obtain ⟨ts, q, f1, f2, f3⟩ := ref_l (fun c => (ps.filter (fun e => decide (e.Currency = c))).map (·.Party)) (Positions_own.CKl l) hK (ps.map keyP) 1000 ps [] (posOf l) hPI rfl (by omega) hs (fun c => ⟨hKnd c, fun k hk => (hK c k).2 (hPI.zero c k hk), posOf_sum l c _ (hKnd c) (fun t ht hc => ⟨(hK _ _).2 ⟨t, ht, hc, .inl rfl⟩, (hK _ _).2 ⟨t, ht, hc, .inr rfl⟩⟩)⟩) (fun c k => by have := hb c k; omega) (by omega) (by simp; omega)
 exact ⟨ts, q, by rw [f1]; rfl, f2, f3⟩
end Go.Proofs.Ytoncfkdgddfnlaa.M
