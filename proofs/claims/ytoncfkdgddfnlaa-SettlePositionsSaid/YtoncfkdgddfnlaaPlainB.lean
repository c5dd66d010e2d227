/- Plain laws of chapter 49: the netting of positions as a sequence of determined steps. -/
import Derived.Test.YtoncfkdgddfnlaaPlainA
namespace Go.Proofs.Ytoncfkdgddfnlaa.M
open Go Go.Proofs.Ytoncfkdgddfnlaa.E Go.Proofs.Ytoncfkdgddfnlaa.W
set_option linter.unusedVariables false
set_option linter.unusedSimpArgs false
abbrev Pos := ByteArray → ByteArray → Int
def con (t : SBalance) (c k : ByteArray) : Int := (if c = t.Currency ∧ k = t.Creditor then t.Amount else 0) - (if c = t.Currency ∧ k = t.Debtor then t.Amount else 0)
def posOf (l : List SBalance) : Pos := fun c k => (l.map (fun t => con t c k)).sum
def stepP (p : Pos) (t : SBalance) : Pos := fun c k => p c k - con t c k
structure StepR (p : Pos) (t : SBalance) : Prop where
 low : ∀ c k, sLt c t.Currency = true → p c k = 0
 pos : 0 < p t.Currency t.Creditor
 neg : p t.Currency t.Debtor < 0
 max : ∀ k, p t.Currency k ≤ p t.Currency t.Creditor
 maxl : ∀ k, p t.Currency k = p t.Currency t.Creditor → sLt k t.Creditor = false
 min : ∀ k, p t.Currency t.Debtor ≤ p t.Currency k
 minl : ∀ k, p t.Currency k = p t.Currency t.Debtor → sLt k t.Debtor = false
 amt : t.Amount = if -(p t.Currency t.Debtor) < p t.Currency t.Creditor then -(p t.Currency t.Debtor) else p t.Currency t.Creditor
def Path : Pos → List SBalance → Pos → Prop
 | p, [], q => p = q
 | p, t :: ts, q => StepR p t ∧ Path (stepP p t) ts q
theorem Path.append : ∀ {a b : List SBalance} {p q r : Pos}, Path p a q → Path q b r → Path p (a ++ b) r
 | [], b, p, q, r, h1, h2 => by
  have h1 : p = q := h1
  subst h1; exact h2
 | t :: a, b, p, q, r, h1, h2 => ⟨h1.1, Path.append h1.2 h2⟩
theorem StepR.det {p : Pos} {t u : SBalance} (h : StepR p t) (h' : StepR p u) : t = u := by
 have hc : t.Currency = u.Currency := by
  rcases sLt_tri t.Currency u.Currency with h1 | h1 | h1
  ·have := h'.low _ t.Creditor h1
   have := h.pos
   omega
  ·exact h1
  ·have := h.low _ u.Creditor h1
   have := h'.pos
   omega
 obtain ⟨tc, td, tcur, ta⟩ := t
 obtain ⟨uc, ud, ucur, ua⟩ := u
 simp only at hc
 subst hc
 have e1 : tc = uc := by
  have q0 : p tcur tc = p tcur uc := Int.le_antisymm (h'.max tc) (h.max uc)
  rcases sLt_tri tc uc with q | q | q
  ·have := h'.maxl tc q0
   simp only at this
   rw [this] at q; cases q
  ·exact q
  ·have := h.maxl uc q0.symm
   simp only at this
   rw [this] at q; cases q
 have e2 : td = ud := by
  have q0 : p tcur td = p tcur ud := Int.le_antisymm (h.min ud) (h'.min td)
  rcases sLt_tri td ud with q | q | q
  ·have := h'.minl td q0
   simp only at this
   rw [this] at q; cases q
  ·exact q
  ·have := h.minl ud q0.symm
   simp only at this
   rw [this] at q; cases q
 subst e1 e2
 have e3 : ta = ua := h.amt.trans h'.amt.symm
 rw [e3]
theorem Path.det : ∀ {a b : List SBalance} {p q r : Pos}, Path p a q → Path p b r → (∀ c k, q c k = 0) → (∀ c k, r c k = 0) → a = b
 | [], [], _, _, _, _, _, _, _ => rfl
 | [], t :: b, p, q, r, h1, h2, hq, hr => by
  have h1 : p = q := h1
  subst h1
  have := h2.1.pos
  rw [hq] at this; omega
 | t :: a, [], p, q, r, h1, h2, hq, hr => by
  have h2 : p = r := h2
  subst h2
  have := h1.1.pos
  rw [hr] at this; omega
 | t :: a, u :: b, p, q, r, h1, h2, hq, hr => by
  have e := h1.1.det h2.1
  subst e
  rw [Path.det h1.2 h2.2 hq hr]
theorem Path.sum : ∀ {a : List SBalance} {p q : Pos}, Path p a q → ∀ c k, p c k = q c k + posOf a c k
 | [], p, q, h, c, k => by
  have h : p = q := h
  subst h; simp [posOf]
 | t :: a, p, q, h, c, k => by
  have := Path.sum h.2 c k
  simp only [stepP] at this
  simp only [posOf, List.map_cons, List.sum_cons] at this ⊢
  omega
theorem StepR.ne {p : Pos} {t : SBalance} (h : StepR p t) : t.Creditor ≠ t.Debtor := by
 intro he
 have h1 := h.pos
 have h2 := h.neg
 rw [he] at h1; omega
theorem StepR.amt_pos {p : Pos} {t : SBalance} (h : StepR p t) : 0 < t.Amount := by
 have h1 := h.pos
 have h2 := h.neg
 rw [h.amt]
 split <;> omega
theorem con_cur {t : SBalance} {c k : ByteArray} (h : c ≠ t.Currency) : con t c k = 0 := by simp [con, h]
theorem con_oth {t : SBalance} {c k : ByteArray} (h1 : k ≠ t.Creditor) (h2 : k ≠ t.Debtor) : con t c k = 0 := by simp [con, h1, h2]
theorem con_cred {t : SBalance} (h : t.Creditor ≠ t.Debtor) : con t t.Currency t.Creditor = t.Amount := by simp [con, h]
theorem con_deb {t : SBalance} (h : t.Creditor ≠ t.Debtor) : con t t.Currency t.Debtor = -t.Amount := by simp [con, Ne.symm h]
theorem StepR.keeps {p : Pos} {t : SBalance} (h : StepR p t) (c k : ByteArray) (hz : stepP p t c k ≠ 0) : p c k ≠ 0 := by
 intro h0
 apply hz
 unfold stepP
 by_cases h1 : c = t.Currency
 ·by_cases h2 : k = t.Creditor
  ·subst h1 h2; have := h.pos; omega
  ·by_cases h3 : k = t.Debtor
   ·subst h1 h3; have := h.neg; omega
   ·rw [con_oth h2 h3]; omega
 ·rw [con_cur h1]; omega
theorem StepR.clears {p : Pos} {t : SBalance} (h : StepR p t) : stepP p t t.Currency t.Creditor = 0 ∨ stepP p t t.Currency t.Debtor = 0 := by
 have h1 := h.amt
 unfold stepP
 rw [con_cred h.ne, con_deb h.ne]
 split at h1 <;> omega
theorem filter_le {α : Type} (q q' : α → Bool) : ∀ (K : List α), (∀ x ∈ K, q' x = true → q x = true) → (K.filter q').length ≤ (K.filter q).length
 | [], _ => by simp
 | a :: K, h => by
  have ih := filter_le q q' K (fun x hx => h x (List.mem_cons_of_mem _ hx))
  have ha := h a List.mem_cons_self
  rw [List.filter_cons, List.filter_cons]
  by_cases h1 : q' a = true
  ·rw [if_pos h1, if_pos (ha h1)]; simp; omega
  ·rw [if_neg h1]
   split
   ·simp; omega
   ·exact ih
theorem filter_lt {α : Type} (q q' : α → Bool) {x0 : α} (h0 : q x0 = true) (h0' : q' x0 = false) : ∀ (K : List α), (∀ x ∈ K, q' x = true → q x = true) → x0 ∈ K → (K.filter q').length < (K.filter q).length
 | [], _, hm => by cases hm
 | a :: K, h, hm => by
  have hle := filter_le q q' K (fun x hx => h x (List.mem_cons_of_mem _ hx))
  have ha := h a List.mem_cons_self
  rw [List.filter_cons, List.filter_cons]
  rcases List.mem_cons.1 hm with rfl | hm
  ·rw [if_pos h0, if_neg (by simp [h0'])]; simp; omega
  ·have ih := filter_lt q q' h0 h0' K (fun x hx => h x (List.mem_cons_of_mem _ hx)) hm
   by_cases h1 : q' a = true
   ·rw [if_pos h1, if_pos (ha h1)]; simp; omega
   ·rw [if_neg h1]
    split
    ·simp; omega
    ·exact ih
theorem two_mem {α : Type} {a b : α} (hne : a ≠ b) : ∀ (l : List α), a ∈ l → b ∈ l → 2 ≤ l.length
 | [], h, _ => by cases h
 | [x], h1, h2 => by simp at h1 h2; exact absurd (h1.trans h2.symm) hne
 | x :: y :: l, _, _ => by simp
def nzq (Q : ByteArray → Bool) (KK : List (ByteArray × ByteArray)) (p : Pos) : Nat := (KK.filter (fun x => Q x.1 && decide (p x.1 x.2 ≠ 0))).length
theorem nzq_step {Q : ByteArray → Bool} {KK : List (ByteArray × ByteArray)} {p : Pos} {t : SBalance} (h : StepR p t) (hQ : Q t.Currency = true) (hs : ∀ c k, p c k ≠ 0 → (c, k) ∈ KK) : nzq Q KK (stepP p t) < nzq Q KK p ∧ 2 ≤ nzq Q KK p := by
 have hp := h.pos
 have hn := h.neg
 have m1 := hs t.Currency t.Creditor (by omega)
 have m2 := hs t.Currency t.Debtor (by omega)
 have q1 : (Q t.Currency && decide (p t.Currency t.Creditor ≠ 0)) = true := by rw [hQ, decide_eq_true (by omega)]; rfl
 have q2 : (Q t.Currency && decide (p t.Currency t.Debtor ≠ 0)) = true := by rw [hQ, decide_eq_true (by omega)]; rfl
 have hmono : ∀ x ∈ KK, (Q x.1 && decide (stepP p t x.1 x.2 ≠ 0)) = true → (Q x.1 && decide (p x.1 x.2 ≠ 0)) = true := by
  intro x _ hx
  simp only [Bool.and_eq_true, decide_eq_true_eq] at hx ⊢
  exact ⟨hx.1, h.keeps _ _ hx.2⟩
 refine ⟨?_, ?_⟩
 ·rcases h.clears with hc | hc
  ·exact filter_lt (fun x => Q x.1 && decide (p x.1 x.2 ≠ 0)) (fun x => Q x.1 && decide (stepP p t x.1 x.2 ≠ 0)) (x0 := (t.Currency, t.Creditor)) q1 (by simp [hc]) KK hmono m1
  ·exact filter_lt (fun x => Q x.1 && decide (p x.1 x.2 ≠ 0)) (fun x => Q x.1 && decide (stepP p t x.1 x.2 ≠ 0)) (x0 := (t.Currency, t.Debtor)) q2 (by simp [hc]) KK hmono m2
 ·exact two_mem (a := (t.Currency, t.Creditor)) (b := (t.Currency, t.Debtor)) (fun he => h.ne (Prod.mk.inj he).2) _ (List.mem_filter.2 ⟨m1, q1⟩) (List.mem_filter.2 ⟨m2, q2⟩)
theorem nzq_oth {Q : ByteArray → Bool} {KK : List (ByteArray × ByteArray)} {p : Pos} {t : SBalance} (h : StepR p t) (hQ : Q t.Currency = false) : nzq Q KK (stepP p t) = nzq Q KK p := by
 unfold nzq
 congr 1
 apply List.filter_congr
 intro x _
 by_cases h1 : x.1 = t.Currency
 ·rw [h1, hQ]; rfl
 ·have : stepP p t x.1 x.2 = p x.1 x.2 := by unfold stepP; rw [con_cur h1]; omega
  rw [this]
theorem Path.count (Q : ByteArray → Bool) (KK : List (ByteArray × ByteArray)) : ∀ {a : List SBalance} {p q : Pos}, Path p a q → (∀ c k, p c k ≠ 0 → (c, k) ∈ KK) → (a.filter (fun t => Q t.Currency)).length = 0 ∨ (a.filter (fun t => Q t.Currency)).length + 1 ≤ nzq Q KK p
 | [], p, q, h, hs => .inl rfl
 | t :: a, p, q, h, hs => by
  have ih := Path.count Q KK h.2 (fun c k hz => hs c k (h.1.keeps c k hz))
  rw [List.filter_cons]
  by_cases hQ : Q t.Currency = true
  ·obtain ⟨h1, h2⟩ := nzq_step h.1 hQ hs
   rw [if_pos hQ, List.length_cons]
   right
   rcases ih with ih | ih <;> omega
  ·rw [if_neg hQ]
   rw [nzq_oth h.1 (by simpa using hQ)] at ih
   exact ih
theorem Path.amounts : ∀ {a : List SBalance} {p q : Pos}, Path p a q → ∀ t ∈ a, 0 < t.Amount ∧ t.Creditor ≠ t.Debtor ∧ ∃ c k k', p t.Currency t.Creditor ≠ 0 ∧ p t.Currency t.Debtor ≠ 0 ∧ c = t.Currency ∧ k = t.Creditor ∧ k' = t.Debtor
 | [], p, q, h, t, ht => by cases ht
 | u :: a, p, q, h, t, ht => by
  rcases List.mem_cons.1 ht with rfl | ht
  ·have h1 := h.1.pos
   have h2 := h.1.neg
   exact ⟨h.1.amt_pos, h.1.ne, _, _, _, by omega, by omega, rfl, rfl, rfl⟩
  ·obtain ⟨h1, h2, _, _, _, h3, h4, _⟩ := Path.amounts h.2 t ht
   exact ⟨h1, h2, _, _, _, h.1.keeps _ _ h3, h.1.keeps _ _ h4, rfl, rfl, rfl⟩
theorem sum_zeros {α : Type} (f : α → Int) : ∀ (K : List α), (∀ k ∈ K, f k = 0) → (K.map f).sum = 0
 | [], _ => rfl
 | a :: K, h => by
  rw [List.map_cons, List.sum_cons, h a List.mem_cons_self, sum_zeros f K (fun k hk => h k (List.mem_cons_of_mem _ hk))]; rfl
theorem sum_sub {α : Type} (f g : α → Int) : ∀ (K : List α), (K.map (fun k => f k - g k)).sum = (K.map f).sum - (K.map g).sum
 | [] => rfl
 | a :: K => by
  simp only [List.map_cons, List.sum_cons, sum_sub f g K]; omega
theorem sum_add {α : Type} (f g : α → Int) : ∀ (K : List α), (K.map (fun k => f k + g k)).sum = (K.map f).sum + (K.map g).sum
 | [] => rfl
 | a :: K => by
  simp only [List.map_cons, List.sum_cons, sum_add f g K]; omega
theorem sum_one (x : ByteArray) (n : Int) : ∀ (K : List ByteArray), K.Nodup → x ∈ K → (K.map (fun k => if k = x then n else 0)).sum = n
 | [], _, h => by cases h
 | a :: K, hn, h => by
  rw [List.nodup_cons] at hn
  rw [List.map_cons, List.sum_cons]
  by_cases ha : a = x
  ·rw [if_pos ha, sum_zeros _ K (fun k hk => by rw [if_neg (fun e => hn.1 (by rw [ha, ← e]; exact hk))])]; omega
  ·rw [if_neg ha, sum_one x n K hn.2 (by rcases List.mem_cons.1 h with e | e; exact absurd e.symm ha; exact e)]; omega
theorem con_sum (t : SBalance) (c : ByteArray) (K : List ByteArray) (hK : K.Nodup) (h : c = t.Currency → t.Creditor ∈ K ∧ t.Debtor ∈ K) : (K.map (fun k => con t c k)).sum = 0 := by
 by_cases hc : c = t.Currency
 ·obtain ⟨h1, h2⟩ := h hc
  have e : (fun k => con t c k) = (fun k => (if k = t.Creditor then t.Amount else 0) - (if k = t.Debtor then t.Amount else 0)) := by
   funext k; simp [con, hc]
  rw [e, sum_sub, sum_one _ _ K hK h1, sum_one _ _ K hK h2]; omega
 ·exact sum_zeros _ K (fun k _ => con_cur hc)
theorem posOf_sum (l : List SBalance) (c : ByteArray) (K : List ByteArray) (hK : K.Nodup) (h : ∀ t ∈ l, c = t.Currency → t.Creditor ∈ K ∧ t.Debtor ∈ K) : (K.map (posOf l c)).sum = 0 := by
 induction l with
 | nil => exact sum_zeros _ K (fun k _ => rfl)
 | cons t l ih =>
  have e : posOf (t :: l) c = fun k => con t c k + posOf l c k := by funext k; simp [posOf]
  rw [e, sum_add, con_sum t c K hK (h t List.mem_cons_self), ih (fun u hu => h u (List.mem_cons_of_mem _ hu))]; rfl
theorem posOf_supp (l : List SBalance) (c k : ByteArray) (h : posOf l c k ≠ 0) : ∃ t ∈ l, c = t.Currency ∧ (k = t.Creditor ∨ k = t.Debtor) := by
 induction l with
 | nil => exact absurd rfl h
 | cons t l ih =>
  by_cases hc : con t c k = 0
  ·have e : posOf (t :: l) c k = posOf l c k := by simp [posOf, hc]
   rw [e] at h
   obtain ⟨u, hu, h2⟩ := ih h
   exact ⟨u, List.mem_cons_of_mem _ hu, h2⟩
  ·refine ⟨t, List.mem_cons_self, ?_⟩
   apply Decidable.byContradiction
   intro hn
   apply hc
   by_cases h1 : c = t.Currency
   ·have h2 : ¬ (k = t.Creditor ∨ k = t.Debtor) := fun h => hn ⟨h1, h⟩
    exact con_oth (fun h => h2 (.inl h)) (fun h => h2 (.inr h))
   ·exact con_cur h1
structure Fin1 (K : List ByteArray) (f : ByteArray → Int) : Prop where
 nd : K.Nodup
 sup : ∀ k, f k ≠ 0 → k ∈ K
 sum : (K.map f).sum = 0
theorem Fin1.step {K : List ByteArray} {p : Pos} {c : ByteArray} {t : SBalance} (h : Fin1 K (p c)) (hs : StepR p t) : Fin1 K (stepP p t c) := by
 refine ⟨h.nd, fun k hk => h.sup k (hs.keeps c k hk), ?_⟩
 have hp := hs.pos
 have hn := hs.neg
 have e : stepP p t c = fun k => p c k - con t c k := rfl
 rw [e, sum_sub, con_sum t c K h.nd (fun hc => ⟨h.sup _ (by rw [hc]; omega), h.sup _ (by rw [hc]; omega)⟩), h.sum]; rfl
theorem sum_nonpos (f : ByteArray → Int) : ∀ (K : List ByteArray), (∀ k ∈ K, f k ≤ 0) → (K.map f).sum ≤ 0 ∧ ((K.map f).sum = 0 → ∀ k ∈ K, f k = 0)
 | [], _ => ⟨Int.le_refl _, fun _ k hk => by cases hk⟩
 | a :: K, h => by
  obtain ⟨h1, h2⟩ := sum_nonpos f K (fun k hk => h k (List.mem_cons_of_mem _ hk))
  have ha := h a List.mem_cons_self
  rw [List.map_cons, List.sum_cons]
  refine ⟨by omega, fun h0 k hk => ?_⟩
  rcases List.mem_cons.1 hk with rfl | hk
  ·omega
  ·exact h2 (by omega) k hk
theorem Fin1.zero_of_max {K : List ByteArray} {f : ByteArray → Int} (h : Fin1 K f) (hm : ∀ k ∈ K, f k ≤ 0) (k : ByteArray) : f k = 0 := by
 apply Decidable.byContradiction
 intro hk
 exact hk ((sum_nonpos f K hm).2 h.sum k (h.sup k hk))
theorem Fin1.zero_of_min {K : List ByteArray} {f : ByteArray → Int} (h : Fin1 K f) (hm : ∀ k ∈ K, 0 ≤ f k) (k : ByteArray) : f k = 0 := by
 have hs := h.sum
 have e : (K.map (fun k => -f k)).sum = 0 := by
  have := sum_sub (fun _ => (0 : Int)) f K
  rw [sum_zeros (fun _ => (0 : Int)) K (fun _ _ => rfl), hs] at this
  simpa using this
 have h2 : Fin1 K (fun k => -f k) := ⟨h.nd, fun k hk => h.sup k (by simpa using hk), e⟩
 have := h2.zero_of_max (fun k hk => by have := hm k hk; omega) k
 omega
theorem StepR.mk' {p : Pos} {K : List ByteArray} {t : SBalance} (hK : ∀ k, p t.Currency k ≠ 0 → k ∈ K) (hlow : ∀ c k, sLt c t.Currency = true → p c k = 0) (hpos : 0 < p t.Currency t.Creditor) (hneg : p t.Currency t.Debtor < 0)
  (hmax : ∀ k ∈ K, p t.Currency k ≤ p t.Currency t.Creditor ∧ (p t.Currency k = p t.Currency t.Creditor → sLt k t.Creditor = false))
  (hmin : ∀ k ∈ K, p t.Currency t.Debtor ≤ p t.Currency k ∧ (p t.Currency k = p t.Currency t.Debtor → sLt k t.Debtor = false))
  (hamt : t.Amount = if -(p t.Currency t.Debtor) < p t.Currency t.Creditor then -(p t.Currency t.Debtor) else p t.Currency t.Creditor) : StepR p t := by
 refine ⟨hlow, hpos, hneg, fun k => ?_, fun k hk => (hmax k (hK k (by omega))).2 hk, fun k => ?_, fun k hk => (hmin k (hK k (by omega))).2 hk, hamt⟩
 ·by_cases h0 : p t.Currency k = 0
  ·omega
  ·exact (hmax k (hK k h0)).1
 ·by_cases h0 : p t.Currency k = 0
  ·omega
  ·exact (hmin k (hK k h0)).1
end Go.Proofs.Ytoncfkdgddfnlaa.M
