/- Plain laws of chapter 49: what the function net returns. -/
import Derived.Test.YtoncfkdgddfnlaaPlainD
namespace Go.Proofs.Ytoncfkdgddfnlaa.M
open Go Go.Proofs.Ytoncfkdgddfnlaa.E Go.Proofs.Ytoncfkdgddfnlaa.W
set_option linter.unusedVariables false
set_option linter.unusedSimpArgs false
theorem StepR.bound {p : Pos} {t : SBalance} (h : StepR p t) {B : Int} {c k : ByteArray} (hb : -B ≤ p c k ∧ p c k ≤ B) : -B ≤ stepP p t c k ∧ stepP p t c k ≤ B := by
 have ha := h.amt
 have hp := h.pos
 have hn := h.neg
 unfold stepP
 by_cases h1 : c = t.Currency
 ·by_cases h2 : k = t.Creditor
  ·subst h1 h2
   rw [con_cred h.ne]
   split at ha <;> omega
  ·by_cases h3 : k = t.Debtor
   ·subst h1 h3
    rw [con_deb h.ne]
    split at ha <;> omega
   ·rw [con_oth h2 h3]; omega
 ·rw [con_cur h1]; omega
def nzn (names : List ByteArray) (f : ByteArray → Int) : Nat := (names.filter (fun k => decide (f k ≠ 0))).length
theorem nzn_step {names : List ByteArray} {p : Pos} {t : SBalance} (h : StepR p t) (hs : ∀ k, p t.Currency k ≠ 0 → k ∈ names) : nzn names (stepP p t t.Currency) < nzn names (p t.Currency) := by
 have hp := h.pos
 have hn := h.neg
 have hmono : ∀ x ∈ names, decide (stepP p t t.Currency x ≠ 0) = true → decide (p t.Currency x ≠ 0) = true := by
  intro x _ hx
  simp only [decide_eq_true_eq] at hx ⊢
  exact h.keeps _ _ hx
 rcases h.clears with hc | hc
 ·exact filter_lt (fun k => decide (p t.Currency k ≠ 0)) (fun k => decide (stepP p t t.Currency k ≠ 0)) (x0 := t.Creditor) (decide_eq_true (by omega)) (by simp [hc]) names hmono (hs _ (by omega))
 ·exact filter_lt (fun k => decide (p t.Currency k ≠ 0)) (fun k => decide (stepP p t t.Currency k ≠ 0)) (x0 := t.Debtor) (decide_eq_true (by omega)) (by simp [hc]) names hmono (hs _ (by omega))
theorem nzn_le (names : List ByteArray) (f : ByteArray → Int) : nzn names f ≤ names.length := List.length_filter_le _ _
theorem net_l (m : List (ByteArray × Int)) (c : ByteArray) (names : List ByteArray) (hnm : sortB (m.map Prod.fst) = names) (hasc : names.Pairwise (fun a b => sLt a b = true)) (hlen : names.length ≤ 400) :
  ∀ (n : Nat) (left : List Int) (out : List SBalance) (p : Pos), left.length = names.length → (∀ j (hj : j < names.length), left.getD j 0 = p c names[j]) → Fin1 names (p c) → (∀ c' k, sLt c' c = true → p c' k = 0) →
   (∀ k, -1152921504606846976 ≤ p c k ∧ p c k ≤ 1152921504606846976) → nzn names (p c) < n → out.length + nzn names (p c) ≤ 900 →
   ∃ ts q, settle_net_l126 1000 m c n left out = some (out ++ ts) ∧ Path p ts q ∧ (∀ k, q c k = 0) ∧ (∀ c' k, c' ≠ c → q c' k = p c' k) ∧ ts.length ≤ nzn names (p c)
 | 0, left, out, p, _, _, _, _, _, hn, _ => by omega
 | n + 1, left, out, p, hll, hp, hF, hlow, hb, hn, ho => by
  simp only [settle_net_l126, settle_net_b126]
  by_cases h0 : 0 < left.length
  ·rw [show decide ((0 : Int) < (left.length : Int)) = true by simpa using h0, cond_true]
   obtain ⟨g, l, e, hg, hl⟩ := scan_l m c left (by omega) out (fun o2_65 o3_66 => settle_net_l126 1000 m c n o2_65 o3_66) 1000 0 0 0 (by omega) (by omega) ⟨h0, Nat.le_refl _, fun j hj => by omega⟩ ⟨h0, Nat.le_refl _, fun j hj => by omega⟩
   simp only [Int.natCast_zero] at e
   rw [e]
   have g1 := hg.lt
   have l1 := hl.lt
   have bg := hb (names[g]'(by omega))
   have bl := hb (names[l]'(by omega))
   rw [← hp g (by omega)] at bg
   rw [← hp l (by omega)] at bl
   by_cases ha : amtOf (left.getD g 0) (left.getD l 0) ≤ 0
   ·rw [p140_stop m c left out _ g l g1 l1 bl ha]
    refine ⟨[], p, by simp, rfl, fun k => ?_, fun _ _ _ => rfl, Nat.zero_le _⟩
    have : left.getD g 0 ≤ 0 ∨ 0 ≤ left.getD l 0 := by
     unfold amtOf at ha; split at ha <;> omega
    rcases this with hh | hh
    ·refine hF.zero_of_max (fun k hk => ?_) k
     obtain ⟨j, hj, rfl⟩ := List.mem_iff_getElem.1 hk
     have h1 : left.getD j 0 ≤ left.getD g 0 := (hg.mx j (by omega)).1
     rw [hp j hj] at h1; omega
    ·refine hF.zero_of_min (fun k hk => ?_) k
     obtain ⟨j, hj, rfl⟩ := List.mem_iff_getElem.1 hk
     have h1 : -left.getD j 0 ≤ -left.getD l 0 := (hl.mx j (by omega)).1
     rw [hp j hj] at h1; omega
   ·obtain ⟨hs, hgl, hp'⟩ := names_step hasc hll hp hF.sup hlow hg hl (by omega)
    rw [p140_go m c left out _ g l g1 l1 hgl bg bl (by rw [hnm]; omega) (by omega) (by omega)]
    simp only [hnm]
    obtain ⟨t, ht⟩ : ∃ t, t = SBalance.mk (names.getD g ByteArray.empty) (names.getD l ByteArray.empty) c (amtOf (left.getD g 0) (left.getD l 0)) := ⟨_, rfl⟩
    have htc : t.Currency = c := by rw [ht]
    rw [← ht] at hs hp' ⊢
    have hz := nzn_step (names := names) hs (by rw [htc]; exact hF.sup)
    rw [htc] at hz
    obtain ⟨ts, q, e2, h2, h3, h4, h5⟩ := net_l m c names hnm hasc hlen n ((left.set g (left.getD g 0 - amtOf (left.getD g 0) (left.getD l 0))).set l (left.getD l 0 + amtOf (left.getD g 0) (left.getD l 0))) (out ++ [t]) (stepP p t) (by simpa using hll) hp' (hF.step hs)
     (fun c' k hc' => by unfold stepP; rw [con_cur (by rw [htc]; exact sLt_ne hc'), hlow c' k hc']; rfl) (fun k => hs.bound (hb k)) (by omega) (by rw [List.length_append]; show out.length + 1 + _ ≤ _; omega)
    refine ⟨t :: ts, q, by rw [e2]; simp, ⟨hs, h2⟩, h3, fun c' k hc' => ?_, by rw [List.length_cons]; omega⟩
    rw [h4 c' k hc']
    unfold stepP
    rw [con_cur (by rw [htc]; exact hc')]; omega
  ·rw [show decide ((0 : Int) < (left.length : Int)) = false from decide_eq_false (by omega), cond_false]
   refine ⟨[], p, by simp [settle_net_p5], rfl, fun k => ?_, fun _ _ _ => rfl, Nat.zero_le _⟩
   apply Decidable.byContradiction
   intro hk
   have := hF.sup k hk
   have hnn : names = [] := List.length_eq_zero_iff.1 (by omega)
   rw [hnn] at this; cases this
theorem fill_l (m : List (ByteArray × Int)) (c : ByteArray) (names : List ByteArray) (hnm : sortB (m.map Prod.fst) = names) (hlen : names.length ≤ 400) : ∀ (n i : Nat) (left : List Int), i ≤ names.length → names.length < n + i → left.length = names.length → (∀ j (hj : j < names.length), j < i → left.getD j 0 = (alook m names[j]).getD 0) →
  ∃ left', settle_net_l195 1000 m c n (i : Int) left = settle_net_p186 1000 m c left' ∧ left'.length = names.length ∧ ∀ j (hj : j < names.length), left'.getD j 0 = (alook m names[j]).getD 0
 | 0, i, left, h1, h2, _, _ => by omega
 | n + 1, i, left, h1, h2, hl, hv => by
  simp only [settle_net_l195, settle_net_b195, hnm]
  by_cases hi : i < names.length
  ·rw [show decide ((i : Int) < (names.length : Int)) = true by simpa using hi, cond_true, guard_pos (by omega), guard_pos (by omega), getD_nat names _ i hi, wsucc i (by omega)]
   simp only [Int.toNat_natCast]
   refine fill_l m c names hnm hlen n (i + 1) _ (by omega) (by omega) (by simpa using hl) (fun j hj hji => ?_)
   rw [List.getD_eq_getElem?_getD, List.getElem?_set]
   by_cases hij : i = j
   ·subst hij
    rw [if_pos rfl, if_pos (by omega)]; rfl
   ·rw [if_neg hij, ← List.getD_eq_getElem?_getD]
    exact hv j hj (by omega)
  ·rw [show decide ((i : Int) < (names.length : Int)) = false by simp; omega, cond_false]
   exact ⟨left, rfl, hl, fun j hj => hv j hj (by omega)⟩
theorem net_eq (m : List (ByteArray × Int)) (c : ByteArray) (p : Pos) (hok : keysOk (m.map Prod.fst) = true) (hlen : m.length ≤ 400) (hv : ∀ k, (alook m k).getD 0 = p c k) (hF : Fin1 (sortB (m.map Prod.fst)) (p c)) (hlow : ∀ c' k, sLt c' c = true → p c' k = 0)
  (hb : ∀ k, -1152921504606846976 ≤ p c k ∧ p c k ≤ 1152921504606846976) :
  ∃ ts q, settle_net 1000 m c = some ts ∧ Path p ts q ∧ (∀ k, q c k = 0) ∧ (∀ c' k, c' ≠ c → q c' k = p c' k) ∧ ts.length ≤ 400 := by
 unfold settle_net
 obtain ⟨names, hnm⟩ : ∃ names, sortB (m.map Prod.fst) = names := ⟨_, rfl⟩
 have hnd : (m.map Prod.fst).Nodup := by
  simp only [keysOk, Bool.and_eq_true] at hok
  exact ndS_out hok.1.1
 have hasc := sortB_asc _ hnd
 have hl : names.length = m.length := by rw [← hnm, sortB_len]; simp
 rw [hnm] at hF hasc ⊢
 rw [guard_pos hok, guard_pos (by omega)]
 obtain ⟨left, e, h1, h2⟩ := fill_l m c names hnm (by omega) 1000 0 (List.replicate (((names.length : Nat) : Int)).toNat 0) (by omega) (by omega) (by simp) (fun j _ hj => by omega)
 simp only [Int.natCast_zero] at e
 rw [e]
 unfold settle_net_p186
 have hz := nzn_le names (p c)
 obtain ⟨ts, q, e2, h3, h4, h5, h6⟩ := net_l m c names hnm hasc (by omega) 1000 left [] p h1 (fun j hj => (h2 j hj).trans (hv _)) hF hlow hb (by omega) (by simp; omega)
 exact ⟨ts, q, e2, h3, h4, h5, by omega⟩
end Go.Proofs.Ytoncfkdgddfnlaa.M
