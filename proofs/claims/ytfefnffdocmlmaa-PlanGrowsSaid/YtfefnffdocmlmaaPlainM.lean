/- Plain laws: the turns of a division, where what fits is closed downwards. -/
import Derived.Test.YtfefnffdocmlmaaPlainK
namespace Go.Proofs.Ytfefnffdocmlmaa.M
open Go Go.Proofs.Ytfefnffdocmlmaa.E Go.Proofs.Ytfefnffdocmlmaa.W
set_option linter.unusedVariables false
set_option linter.unusedSimpArgs false
def Mono (n : Nat) (caps : List Int) (fit : List Int → Bool) : Prop := ∀ l l' : List Int, Box n caps l → Box n caps l' → (∀ i, i < n → l.getD i 0 ≤ l'.getD i 0) → fit l' = true → fit l = true
def Full (n : Nat) (caps : List Int) (fit : List Int → Bool) (x : List Int) (j : Nat) : Prop :=
 x.getD j 0 = caps.getD j 0 ∨ ∃ z, Box n caps z ∧ (∀ k, k < n → z.getD k 0 ≤ x.getD k 0) ∧ z.getD j 0 = x.getD j 0 ∧ z.getD j 0 < caps.getD j 0 ∧ fit (z.set j (z.getD j 0 + 1)) = false ∧ ∀ k, k < n → z.getD k 0 ≤ z.getD j 0 + 1
theorem Full.later {n : Nat} {caps : List Int} {fit : List Int → Bool} {x x' : List Int} {j : Nat} (h : Full n caps fit x j) (hle : ∀ k, k < n → x.getD k 0 ≤ x'.getD k 0) (hj : x'.getD j 0 = x.getD j 0) : Full n caps fit x' j := by
 rcases h with h | ⟨z, h1, h2, h3, h4⟩
 ·exact .inl (by rw [hj]; exact h)
 ·exact .inr ⟨z, h1, fun k hk => Int.le_trans (h2 k hk) (hle k hk), by rw [hj]; exact h3, h4⟩
def FairV (n : Nat) (caps : List Int) (fit : List Int → Bool) (x : List Int) : Prop := Box n caps x ∧ fit x = true ∧ ∀ j, j < n → Full n caps fit x j
structure FM (n : Nat) (caps : List Int) (fit : List Int → Bool) (lam : Int) (x : List Int) (act : List Bool) : Prop where
 box : Box n caps x
 fits : fit x = true
 alen : act.length = n
 top : ∀ j, j < n → x.getD j 0 ≤ lam
 lev : ∀ j, j < n → act.getD j false = true → x.getD j 0 = mn lam (caps.getD j 0)
 full : ∀ j, j < n → act.getD j false = false → Full n caps fit x j
def cnt : List Bool → Nat
 | [] => 0
 | b :: l => (if b = true then 1 else 0) + cnt l
theorem cnt_le : ∀ (a b : List Bool), a.length = b.length → (∀ j, a.getD j false = true → b.getD j false = true) → cnt a ≤ cnt b ∧ (cnt a = cnt b → a = b)
 | [], [], _, _ => ⟨Nat.le_refl _, fun _ => rfl⟩
 | x :: a, y :: b, hl, h => by
  obtain ⟨h1, h2⟩ := cnt_le a b (by simpa using hl) (fun j hj => by simpa using h (j + 1) (by simpa using hj))
  have h0 := h 0
  simp only [List.getD_cons_zero] at h0
  simp only [cnt]
  cases x <;> cases y
  ·exact ⟨by simpa using h1, fun hh => by rw [h2 (by simpa using hh)]⟩
  ·simp only [Bool.false_eq_true, if_false, if_true]; exact ⟨by omega, fun hh => by omega⟩
  ·exact absurd (h0 rfl) (by decide)
  ·simp only [if_true]; exact ⟨by omega, fun hh => by rw [h2 (by omega)]⟩
 | [], _ :: _, hl, _ => by simp at hl
 | _ :: _, [], hl, _ => by simp at hl
theorem cnt_rep (n : Nat) : cnt (List.replicate n true) = n := by
 induction n with
 | zero => rfl
 | succ n ih => rw [List.replicate_succ, cnt, ih, if_pos rfl]; omega
theorem cnt_none : ∀ (a : List Bool), cnt a = 0 → ∀ j, a.getD j false = false
 | [], _, j => by simp
 | x :: a, h, j => by
  simp only [cnt] at h
  cases x with
  | true => simp at h
  | false =>
   cases j with
   | zero => rfl
   | succ j => simpa using cnt_none a (by simpa using h) j
theorem act_set (act : List Bool) (i j : Nat) : (act.set i false).getD j false = true → act.getD j false = true ∧ (i < act.length → j ≠ i) := by
 intro h
 rw [getD_set] at h
 by_cases hj : j = i ∧ i < act.length
 ·rw [if_pos hj] at h; cases h
 ·rw [if_neg hj] at h
  exact ⟨h, fun hl hji => hj ⟨hji, hl⟩⟩
theorem sg_fm {n : Nat} {caps : List Int} {fit : List Int → Bool} (lam : Int) (hlam : 0 ≤ lam) : ∀ (k i : Nat) (left : Bool) (x : List Int) (act : List Bool), i + k = n → Box n caps x → fit x = true → act.length = n → (∀ j, j < n → x.getD j 0 ≤ lam + 1) →
  (∀ j, j < i → act.getD j false = true → x.getD j 0 = mn (lam + 1) (caps.getD j 0)) → (∀ j, i ≤ j → j < n → act.getD j false = true → x.getD j 0 = mn lam (caps.getD j 0)) → (∀ j, j < n → act.getD j false = false → Full n caps fit x j) →
  FM n caps fit (lam + 1) (sg caps fit k i left x act).2.1 (sg caps fit k i left x act).2.2
 | 0, i, left, x, act, h1, hb, hf, ha, ht, hl, hm, hF => ⟨hb, hf, ha, ht, fun j hj => hl j (by omega), hF⟩
 | k + 1, i, left, x, act, h1, hb, hf, ha, ht, hl, hm, hF => by
  have hi : i < n := by omega
  have hbi := hb.bd i hi
  have hbl := hb.len
  rw [sg]
  cases hact : act.getD i false with
  | false =>
   rw [cond_false]
   exact sg_fm lam hlam k (i + 1) left x act (by omega) hb hf ha ht (fun j hj hja => by
    by_cases hji : j = i
    ·subst hji; rw [hact] at hja; cases hja
    ·exact hl j (by omega) hja) (fun j hj hj2 => hm j (by omega) hj2) hF
  | true =>
   rw [cond_true]
   have hmi := hm i (Nat.le_refl _) hi hact
   have hmn := mn_le lam (caps.getD i 0)
   have stop : Full n caps fit x i → FM n caps fit (lam + 1) (sg caps fit k (i + 1) left x (act.set i false)).2.1 (sg caps fit k (i + 1) left x (act.set i false)).2.2 := fun hfull =>
    sg_fm lam hlam k (i + 1) left x _ (by omega) hb hf (by simpa using ha) ht (fun j hj hja => by
     obtain ⟨h3, h4⟩ := act_set act i j hja
     exact hl j (by have := h4 (by omega); omega) h3) (fun j hj hj2 hja => hm j (by omega) hj2 (act_set act i j hja).1) (fun j hj hja => by
     rw [getD_set] at hja
     by_cases hji : j = i
     ·subst hji; exact hfull
     ·rw [if_neg (fun hh => hji hh.1)] at hja; exact hF j hj hja)
   by_cases hlt : x.getD i 0 < caps.getD i 0
   ·rw [decide_eq_true hlt, Bool.true_and]
    have hxl : x.getD i 0 = lam := by unfold mn at hmi; split at hmi <;> omega
    cases hfit : fit (x.set i (x.getD i 0 + 1)) with
    | true =>
     rw [cond_true]
     have hget : ∀ j, (x.set i (x.getD i 0 + 1)).getD j 0 = if j = i then x.getD i 0 + 1 else x.getD j 0 := fun j => by
      rw [getD_set]
      by_cases hji : j = i
      ·rw [if_pos ⟨hji, by omega⟩, if_pos hji]
      ·rw [if_neg (fun hh => hji hh.1), if_neg hji]
     refine sg_fm lam hlam k (i + 1) true _ act (by omega) (set_box hb i hlt) hfit ha (fun j hj => ?_) (fun j hj hja => ?_) (fun j hj hj2 hja => ?_) (fun j hj hja => ?_)
     ·rw [hget]; have := ht j hj; split <;> omega
     ·rw [hget]
      by_cases hji : j = i
      ·rw [if_pos hji, hji]; unfold mn; split <;> omega
      ·rw [if_neg hji]; exact hl j (by omega) hja
     ·rw [hget, if_neg (by omega)]; exact hm j (by omega) hj2 hja
     ·have hji : j ≠ i := fun hh => by rw [hh, hact] at hja; cases hja
      refine (hF j hj hja).later (fun q hq => ?_) (by rw [hget, if_neg hji])
      rw [hget]
      by_cases hqi : q = i
      ·rw [if_pos hqi, hqi]; omega
      ·rw [if_neg hqi]; exact Int.le_refl _
    | false =>
     rw [cond_false]
     exact stop (.inr ⟨x, hb, fun _ _ => Int.le_refl _, rfl, hlt, hfit, fun q hq => by have := ht q hq; omega⟩)
   ·rw [decide_eq_false hlt, Bool.false_and, cond_false]
    exact stop (.inl (by omega))
theorem sg_act {n : Nat} {caps : List Int} {fit : List Int → Bool} : ∀ (k i : Nat) (left : Bool) (x : List Int) (act : List Bool), i + k = n → x.length = n → act.length = n →
  (sg caps fit k i left x act).2.2.length = n ∧ (∀ j, (sg caps fit k i left x act).2.2.getD j false = true → act.getD j false = true) ∧
  ((sg caps fit k i left x act).2.2 = act → ∀ j, j < n → (sg caps fit k i left x act).2.1.getD j 0 = if i ≤ j ∧ act.getD j false = true then x.getD j 0 + 1 else x.getD j 0) ∧
  ((sg caps fit k i left x act).1 = true → left = true ∨ ∃ j, i ≤ j ∧ j < n ∧ act.getD j false = true ∧ x.getD j 0 < caps.getD j 0) ∧
  ((sg caps fit k i left x act).1 = false → left = false ∧ ∀ j, i ≤ j → j < n → (sg caps fit k i left x act).2.2.getD j false = false)
 | 0, i, left, x, act, h1, hx, ha => ⟨ha, fun j h => h, fun _ j hj => by rw [if_neg (by omega)]; rfl, fun h => .inl h, fun h => ⟨h, fun j h2 h3 => by omega⟩⟩
 | k + 1, i, left, x, act, h1, hx, ha => by
  have hi : i < n := by omega
  rw [sg]
  cases hact : act.getD i false with
  | false =>
   rw [cond_false]
   obtain ⟨g1, g2, g3, g4, g5⟩ := sg_act (caps := caps) (fit := fit) k (i + 1) left x act (by omega) hx ha
   refine ⟨g1, g2, fun h j hj => ?_, fun h => ?_, fun h => ?_⟩
   ·rw [g3 h j hj]
    by_cases hji : j = i
    ·subst hji; rw [if_neg (by omega), if_neg (fun hh => by rw [hact] at hh; cases hh.2)]
    ·by_cases hc : i ≤ j ∧ act.getD j false = true
     ·rw [if_pos ⟨by omega, hc.2⟩, if_pos hc]
     ·rw [if_neg (fun hh => hc ⟨by omega, hh.2⟩), if_neg hc]
   ·rcases g4 h with h | ⟨j, h2, h3⟩
    ·exact .inl h
    ·exact .inr ⟨j, by omega, h3⟩
   ·obtain ⟨h2, h3⟩ := g5 h
    refine ⟨h2, fun j h4 h5 => ?_⟩
    by_cases hji : j = i
    ·subst hji
     cases hq : (sg caps fit k (j + 1) left x act).2.2.getD j false with
     | false => rfl
     | true => have := g2 j hq; rw [hact] at this; cases this
    ·exact h3 j (by omega) h5
  | true =>
   rw [cond_true]
   have stop : (sg caps fit k (i + 1) left x (act.set i false)).2.2.length = n ∧ (∀ j, (sg caps fit k (i + 1) left x (act.set i false)).2.2.getD j false = true → act.getD j false = true) ∧
     ((sg caps fit k (i + 1) left x (act.set i false)).2.2 = act → ∀ j, j < n → (sg caps fit k (i + 1) left x (act.set i false)).2.1.getD j 0 = if i ≤ j ∧ act.getD j false = true then x.getD j 0 + 1 else x.getD j 0) ∧
     ((sg caps fit k (i + 1) left x (act.set i false)).1 = true → left = true ∨ ∃ j, i ≤ j ∧ j < n ∧ act.getD j false = true ∧ x.getD j 0 < caps.getD j 0) ∧
     ((sg caps fit k (i + 1) left x (act.set i false)).1 = false → left = false ∧ ∀ j, i ≤ j → j < n → (sg caps fit k (i + 1) left x (act.set i false)).2.2.getD j false = false) := by
    obtain ⟨g1, g2, g3, g4, g5⟩ := sg_act (caps := caps) (fit := fit) k (i + 1) left x (act.set i false) (by omega) hx (by simpa using ha)
    have hno : (sg caps fit k (i + 1) left x (act.set i false)).2.2.getD i false = false := by
     cases hq : (sg caps fit k (i + 1) left x (act.set i false)).2.2.getD i false with
     | false => rfl
     | true => exact absurd rfl ((act_set act i i (g2 i hq)).2 (by omega))
    refine ⟨g1, fun j h => (act_set act i j (g2 j h)).1, fun h => ?_, fun h => ?_, fun h => ?_⟩
    ·rw [h, hact] at hno; cases hno
    ·rcases g4 h with h | ⟨j, h2, h3, h4, h5⟩
     ·exact .inl h
     ·exact .inr ⟨j, by omega, h3, (act_set act i j h4).1, h5⟩
    ·obtain ⟨h2, h3⟩ := g5 h
     refine ⟨h2, fun j h4 h5 => ?_⟩
     by_cases hji : j = i
     ·subst hji; exact hno
     ·exact h3 j (by omega) h5
   by_cases hlt : x.getD i 0 < caps.getD i 0
   ·rw [decide_eq_true hlt, Bool.true_and]
    cases hfit : fit (x.set i (x.getD i 0 + 1)) with
    | true =>
     rw [cond_true]
     obtain ⟨g1, g2, g3, g4, g5⟩ := sg_act (caps := caps) (fit := fit) k (i + 1) true (x.set i (x.getD i 0 + 1)) act (by omega) (by simpa using hx) ha
     refine ⟨g1, g2, fun h j hj => ?_, fun _ => .inr ⟨i, Nat.le_refl _, hi, hact, hlt⟩, fun h => absurd (g5 h).1 (by decide)⟩
     have hset : (x.set i (x.getD i 0 + 1)).getD j 0 = if j = i then x.getD i 0 + 1 else x.getD j 0 := by
      rw [getD_set]
      by_cases hji : j = i
      ·rw [if_pos ⟨hji, by omega⟩, if_pos hji]
      ·rw [if_neg (fun hh => hji hh.1), if_neg hji]
     rw [g3 h j hj, hset]
     by_cases hji : j = i
     ·subst hji; rw [if_neg (fun hh => by omega), if_pos rfl, if_pos ⟨Nat.le_refl _, hact⟩]
     ·rw [if_neg hji]
      by_cases hc : i ≤ j ∧ act.getD j false = true
      ·rw [if_pos ⟨by omega, hc.2⟩, if_pos hc]
      ·rw [if_neg (fun hh => hc ⟨by omega, hh.2⟩), if_neg hc]
    | false => rw [cond_false]; exact stop
   ·rw [decide_eq_false hlt, Bool.false_and, cond_false]; exact stop
def FI (n : Nat) (caps : List Int) (fit : List Int → Bool) (t : Nat) (x : List Int) (act : List Bool) : Prop := (∃ lam, 0 ≤ lam ∧ FM n caps fit lam x act) ∧ cnt act + t ≤ n
theorem fm_step {n : Nat} {caps : List Int} (hc : Caps n caps) (fit : List Int → Bool) (t : Nat) (x : List Int) (act : List Bool) (d : Int) (htn : t < n) (hI : FI n caps fit t x act) (hfar : Far n caps x act fit d) :
  ((sg caps fit n 0 false (rs caps x act d) act).1 = false → FairV n caps fit (sg caps fit n 0 false (rs caps x act d) act).2.1) ∧
   ((sg caps fit n 0 false (rs caps x act d) act).1 = true → FI n caps fit (t + 1) (sg caps fit n 0 false (rs caps x act d) act).2.1 (sg caps fit n 0 false (rs caps x act d) act).2.2) := by
 obtain ⟨⟨lam, hlam, hfm⟩, hcnt⟩ := hI
 obtain ⟨f1, f2, f3, f4⟩ := hfar
 have hb := hfm.box
 have hxl := hb.len
 have hrb := rs_box hb act d f1
 have hrl := (rs_len caps x act d).trans hxl
 have hrf : fit (rs caps x act d) = true := by
  rcases f3 with h | h
  ·rw [h, rs_zero hb]; exact hfm.fits
  ·exact h
 have hge : ∀ j, j < n → x.getD j 0 ≤ (rs caps x act d).getD j 0 := fun j hj => by
  rw [rs_get _ _ _ _ _ (by omega)]
  have := hb.bd j hj
  split
  ·unfold mn; split <;> omega
  ·exact Int.le_refl _
 have hfm' := sg_fm (n := n) (caps := caps) (fit := fit) (lam + d) (by omega) n 0 false (rs caps x act d) act (by omega) hrb hrf hfm.alen (fun j hj => by
   rw [rs_get _ _ _ _ _ (by omega)]
   have := hfm.top j hj
   have := mn_le (x.getD j 0 + d) (caps.getD j 0)
   split <;> omega) (fun j hj => by omega) (fun j _ hj hja => by
   rw [rs_get _ _ _ _ _ (by omega), if_pos hja, hfm.lev j hj hja]
   unfold mn; (repeat' split) <;> omega) (fun j hj hja => by
   refine (hfm.full j hj hja).later hge ?_
   rw [rs_get _ _ _ _ _ (by omega), if_neg (by rw [hja]; decide)])
 obtain ⟨g1, g2, g3, g4, g5⟩ := sg_act (n := n) (caps := caps) (fit := fit) n 0 false (rs caps x act d) act (by omega) hrl hfm.alen
 refine ⟨fun h => ?_, fun h => ?_⟩
 ·exact ⟨hfm'.box, hfm'.fits, fun j hj => hfm'.full j hj ((g5 h).2 j (by omega) hj)⟩
 ·refine ⟨⟨lam + d + 1, by omega, hfm'⟩, ?_⟩
  obtain ⟨k1, k2⟩ := cnt_le _ act (g1.trans hfm.alen.symm) g2
  by_cases heq : cnt (sg caps fit n 0 false (rs caps x act d) act).2.2 = cnt act
  ·exfalso
   have hall := g3 (k2 heq)
   rcases g4 h with h' | ⟨j, _, hj, hja, hlt⟩
   ·cases h'
   ·rcases f4 with f4 | f4
    ·have := f4 j hj hja
     rw [rs_get _ _ _ _ _ (by omega), if_pos hja] at hlt
     unfold mn at hlt; split at hlt <;> omega
    ·have e1 : (sg caps fit n 0 false (rs caps x act d) act).2.1 = rs caps x act (d + 1) := by
      refine ext_getD 0 (hfm'.box.len.trans ((rs_len ..).trans hxl).symm) (fun q hq => ?_)
      rw [hfm'.box.len] at hq
      have hbx := hfm'.box.bd q hq
      rw [hall q hq] at hbx ⊢
      rw [rs_get _ _ _ _ _ (by omega), rs_get _ _ _ _ _ (by omega)] at *
      by_cases hqa : act.getD q false = true
      ·rw [if_pos ⟨Nat.zero_le _, hqa⟩, if_pos hqa] at hbx
       rw [if_pos ⟨Nat.zero_le _, hqa⟩, if_pos hqa, if_pos hqa]
       unfold mn at *; (repeat' split at *) <;> (repeat' split) <;> omega
      ·rw [if_neg (fun hh => hqa hh.2), if_neg hqa, if_neg hqa]
     have := hfm'.fits
     rw [e1, f4] at this; cases this
  ·omega
theorem fm_end {n : Nat} {caps : List Int} (fit : List Int → Bool) (x : List Int) (act : List Bool) (h : FI n caps fit n x act) : FairV n caps fit x := by
 obtain ⟨⟨lam, _, hfm⟩, hcnt⟩ := h
 exact ⟨hfm.box, hfm.fits, fun j hj => hfm.full j hj (cnt_none act (by omega) j)⟩
theorem fm_start {n : Nat} {caps : List Int} (hc : Caps n caps) (fit : List Int → Bool) (h0 : fit (List.replicate n 0) = true) : FI n caps fit 0 (List.replicate n 0) (List.replicate n true) := by
 have hg : ∀ j, (List.replicate n (0 : Int)).getD j 0 = 0 := fun j => getD_rep n j 0
 refine ⟨⟨0, Int.le_refl _, ⟨⟨by simp, fun i hi => ?_⟩, h0, by simp, fun j hj => ?_, fun j hj _ => ?_, fun j hj hja => ?_⟩⟩, by rw [cnt_rep]; omega⟩
 ·rw [hg]; have := hc.bd i hi; omega
 ·rw [hg]; exact Int.le_refl _
 ·rw [hg]; have := hc.bd j hj; unfold mn; split <;> omega
 ·rw [List.getD_eq_getElem?_getD, List.getElem?_replicate, if_pos hj] at hja; cases hja
theorem FairV.most {n : Nat} {caps : List Int} {fit : List Int → Bool} (hm : Mono n caps fit) {x : List Int} (h : FairV n caps fit x) (i : Nat) (hi : i < n) (hlt : x.getD i 0 < caps.getD i 0) : fit (x.set i (x.getD i 0 + 1)) = false := by
 obtain ⟨hb, _, hf⟩ := h
 rcases hf i hi with h1 | ⟨z, z1, z2, z3, z4, z5, z6⟩
 ·omega
 ·cases hq : fit (x.set i (x.getD i 0 + 1)) with
  | false => rfl
  | true =>
   have := hm _ _ (set_box z1 i z4) (set_box hb i hlt) (fun k hk => by
    rw [getD_set, getD_set, z3]
    have := z1.len; have := hb.len
    by_cases hki : k = i
    ·rw [if_pos ⟨hki, by omega⟩, if_pos ⟨hki, by omega⟩]; exact Int.le_refl _
    ·rw [if_neg (fun hh => hki hh.1), if_neg (fun hh => hki hh.1)]; exact z2 k hk) hq
   rw [z5] at this; cases this
theorem FairV.fair {n : Nat} {caps : List Int} {fit : List Int → Bool} (hm : Mono n caps fit) {x y : List Int} (h : FairV n caps fit x) (hy : Box n caps y) (hfy : fit y = true) (i : Nat) (hi : i < n) (hlt : x.getD i 0 < y.getD i 0) :
  ∃ j, j < n ∧ y.getD j 0 < x.getD j 0 ∧ y.getD j 0 ≤ x.getD i 0 := by
 obtain ⟨hb, _, hf⟩ := h
 rcases hf i hi with h1 | ⟨z, z1, z2, z3, z4, z5, z6⟩
 ·have := (hy.bd i hi).2; omega
 ·by_cases hall : ∀ k, k < n → (z.set i (z.getD i 0 + 1)).getD k 0 ≤ y.getD k 0
  ·have := hm _ _ (set_box z1 i z4) hy hall hfy
   rw [z5] at this; cases this
  ·obtain ⟨k, hk⟩ := Classical.not_forall.1 hall
   obtain ⟨hkn, hk⟩ := Classical.not_imp.1 hk
   rw [getD_set] at hk
   have := z1.len
   by_cases hki : k = i
   ·rw [if_pos ⟨hki, by omega⟩] at hk; rw [hki] at hk; omega
   ·rw [if_neg (fun hh => hki hh.1)] at hk
    have := z2 k hkn; have := z6 k hkn
    exact ⟨k, hkn, by omega, by omega⟩
end Go.Proofs.Ytfefnffdocmlmaa.M
