/- Plain laws of chapter 49: the netting of positions as a sequence of determined steps. -/
import Derived.Test.YtoncfkdgddfnlaaPlainA
namespace Go.Proofs.Ytoncfkdgddfnlaa.M
open Go Go.Proofs.Ytoncfkdgddfnlaa.E Go.Proofs.Ytoncfkdgddfnlaa.W
set_option linter.unusedVariables false
set_option linter.unusedSimpArgs false
abbrev Pos := ByteArray → ByteArray → Int
def con (t : SBalance) (c k : ByteArray) : Int := (if c = t.Currency ∧ k = t.Creditor then t.Amount else 0) - (if c = t.Currency ∧ k = t.Debtor then t.Amount else 0)
def posOf (l : List SBalance) : Pos := fun c k => (l.map (fun t => con t c k)).sum
def stepP (p : Pos) (t : SBalance) : Pos := fun c k => p c k - con t c k
structure StepR (p : Pos) (t : SBalance) : Prop where
 low : ∀ c k, sLt c t.Currency = true → p c k = 0
 pos : 0 < p t.Currency t.Creditor
 neg : p t.Currency t.Debtor < 0
 max : ∀ k, p t.Currency k ≤ p t.Currency t.Creditor
 maxl : ∀ k, p t.Currency k = p t.Currency t.Creditor → sLt k t.Creditor = false
 min : ∀ k, p t.Currency t.Debtor ≤ p t.Currency k
 minl : ∀ k, p t.Currency k = p t.Currency t.Debtor → sLt k t.Debtor = false
 amt : t.Amount = if -(p t.Currency t.Debtor) < p t.Currency t.Creditor then -(p t.Currency t.Debtor) else p t.Currency t.Creditor
def Path : Pos → List SBalance → Pos → Prop
 | p, [], q => p = q
 | p, t :: ts, q => StepR p t ∧ Path (stepP p t) ts q
theorem Path.append : ∀ {a b : List SBalance} {p q r : Pos}, Path p a q → Path q b r → Path p (a ++ b) r
 | [], b, p, q, r, h1, h2 => by
  have h1 : p = q := h1
  subst h1; exact h2
 | t :: a, b, p, q, r, h1, h2 => ⟨h1.1, Path.append h1.2 h2⟩
theorem Path.sum : ∀ {a : List SBalance} {p q : Pos}, Path p a q → ∀ c k, p c k = q c k + posOf a c k
 | [], p, q, h, c, k => by
  have h : p = q := h
  subst h; simp [posOf]
 | t :: a, p, q, h, c, k => by
  have := Path.sum h.2 c k
  simp only [stepP] at this
  simp only [posOf, List.map_cons, List.sum_cons] at this ⊢
  omega
theorem StepR.ne {p : Pos} {t : SBalance} (h : StepR p t) : t.Creditor ≠ t.Debtor := by
 intro he
 have h1 := h.pos
 have h2 := h.neg
 rw [he] at h1; omega
theorem StepR.amt_pos {p : Pos} {t : SBalance} (h : StepR p t) : 0 < t.Amount := by
 have h1 := h.pos
 have h2 := h.neg
 rw [h.amt]
 split <;> omega
theorem con_cur {t : SBalance} {c k : ByteArray} (h : c ≠ t.Currency) : con t c k = 0 := by simp [con, h]
theorem con_oth {t : SBalance} {c k : ByteArray} (h1 : k ≠ t.Creditor) (h2 : k ≠ t.Debtor) : con t c k = 0 := by simp [con, h1, h2]
theorem StepR.keeps {p : Pos} {t : SBalance} (h : StepR p t) (c k : ByteArray) (hz : stepP p t c k ≠ 0) : p c k ≠ 0 := by
 intro h0
 apply hz
 unfold stepP
 by_cases h1 : c = t.Currency
 ·by_cases h2 : k = t.Creditor
  ·subst h1 h2; have := h.pos; omega
  ·by_cases h3 : k = t.Debtor
   ·subst h1 h3; have := h.neg; omega
   ·rw [con_oth h2 h3]; omega
 ·rw [con_cur h1]; omega
theorem Path.amounts : ∀ {a : List SBalance} {p q : Pos}, Path p a q → ∀ t ∈ a, 0 < t.Amount ∧ t.Creditor ≠ t.Debtor ∧ ∃ c k k', p t.Currency t.Creditor ≠ 0 ∧ p t.Currency t.Debtor ≠ 0 ∧ c = t.Currency ∧ k = t.Creditor ∧ k' = t.Debtor
 | [], p, q, h, t, ht => by cases ht
 | u :: a, p, q, h, t, ht => by
  rcases List.mem_cons.1 ht with rfl | ht
  ·have h1 := h.1.pos
   have h2 := h.1.neg
   exact ⟨h.1.amt_pos, h.1.ne, _, _, _, by omega, by omega, rfl, rfl, rfl⟩
  ·obtain ⟨h1, h2, _, _, _, h3, h4, _⟩ := Path.amounts h.2 t ht
   exact ⟨h1, h2, _, _, _, h.1.keeps _ _ h3, h.1.keeps _ _ h4, rfl, rfl, rfl⟩
theorem sum_zeros {α : Type} (f : α → Int) : ∀ (K : List α), (∀ k ∈ K, f k = 0) → (K.map f).sum = 0
 | [], _ => rfl
 | a :: K, h => by
  rw [List.map_cons, List.sum_cons, h a List.mem_cons_self, sum_zeros f K (fun k hk => h k (List.mem_cons_of_mem _ hk))]; rfl
theorem sum_sub {α : Type} (f g : α → Int) : ∀ (K : List α), (K.map (fun k => f k - g k)).sum = (K.map f).sum - (K.map g).sum
 | [] => rfl
 | a :: K => by
  simp only [List.map_cons, List.sum_cons, sum_sub f g K]; omega
theorem sum_one (x : ByteArray) (n : Int) : ∀ (K : List ByteArray), K.Nodup → x ∈ K → (K.map (fun k => if k = x then n else 0)).sum = n
 | [], _, h => by cases h
 | a :: K, hn, h => by
  rw [List.nodup_cons] at hn
  rw [List.map_cons, List.sum_cons]
  by_cases ha : a = x
  ·rw [if_pos ha, sum_zeros _ K (fun k hk => by rw [if_neg (fun e => hn.1 (by rw [ha, ← e]; exact hk))])]; omega
  ·rw [if_neg ha, sum_one x n K hn.2 (by rcases List.mem_cons.1 h with e | e; exact absurd e.symm ha; exact e)]; omega
theorem con_sum (t : SBalance) (c : ByteArray) (K : List ByteArray) (hK : K.Nodup) (h : c = t.Currency → t.Creditor ∈ K ∧ t.Debtor ∈ K) : (K.map (fun k => con t c k)).sum = 0 := by
 by_cases hc : c = t.Currency
 ·obtain ⟨h1, h2⟩ := h hc
  have e : (fun k => con t c k) = (fun k => (if k = t.Creditor then t.Amount else 0) - (if k = t.Debtor then t.Amount else 0)) := by
   funext k; simp [con, hc]
  rw [e, sum_sub, sum_one _ _ K hK h1, sum_one _ _ K hK h2]; omega
 ·exact sum_zeros _ K (fun k _ => con_cur hc)
structure Fin1 (K : List ByteArray) (f : ByteArray → Int) : Prop where
 nd : K.Nodup
 sup : ∀ k, f k ≠ 0 → k ∈ K
 sum : (K.map f).sum = 0
theorem Fin1.step {K : List ByteArray} {p : Pos} {c : ByteArray} {t : SBalance} (h : Fin1 K (p c)) (hs : StepR p t) : Fin1 K (stepP p t c) := by
 refine ⟨h.nd, fun k hk => h.sup k (hs.keeps c k hk), ?_⟩
 have hp := hs.pos
 have hn := hs.neg
 have e : stepP p t c = fun k => p c k - con t c k := rfl
 rw [e, sum_sub, con_sum t c K h.nd (fun hc => ⟨h.sup _ (by rw [hc]; omega), h.sup _ (by rw [hc]; omega)⟩), h.sum]; rfl
end Go.Proofs.Ytoncfkdgddfnlaa.M
