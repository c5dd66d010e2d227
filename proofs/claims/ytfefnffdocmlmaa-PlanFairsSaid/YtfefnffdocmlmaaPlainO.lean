/- Plain laws of chapter 18: the reference's Fair. -/
import Derived.Test.YtfefnffdocmlmaaPlainN
namespace Go.Proofs.Ytfefnffdocmlmaa.M
open Go Go.Proofs Go.Proofs.Ytfefnffdocmlmaa.E Go.Proofs.Ytfefnffdocmlmaa.W
set_option linter.unusedVariables false
set_option linter.unusedSimpArgs false
theorem some_l (act : List Bool) (hl : act.length ≤ 100) : ∀ (k i : Nat), i ≤ act.length → act.length < k + i → ∃ b, chargenetref18_some_l9 act k (i : Int) = some b ∧ (b = true ↔ ∃ j, i ≤ j ∧ act.getD j false = true)
 | 0, i, h1, h2 => by omega
 | k + 1, i, h1, h2 => by
  simp only [chargenetref18_some_l9, chargenetref18_some_b9]
  rw [Int.toNat_natCast]
  by_cases hi : i < act.length
  ·rw [decide_eq_true (show (i : Int) < (act.length : Int) by omega), cond_true, guard_pos (show (0 : Int) ≤ (i : Int) ∧ (i : Int) < (act.length : Int) by omega), wsucc i (by omega)]
   cases ha : act.getD i false with
   | true => rw [cond_true]; exact ⟨true, rfl, ⟨fun _ => ⟨i, Nat.le_refl _, ha⟩, fun _ => rfl⟩⟩
   | false =>
    rw [cond_false]
    obtain ⟨b, b1, b2⟩ := some_l act hl k (i + 1) (by omega) (by omega)
    refine ⟨b, b1, b2.trans ⟨fun ⟨j, h3, h4⟩ => ⟨j, by omega, h4⟩, fun ⟨j, h3, h4⟩ => ⟨j, ?_, h4⟩⟩⟩
    have : j ≠ i := fun hh => by rw [hh, ha] at h4; cases h4
    omega
  ·rw [decide_eq_false (show ¬ (i : Int) < (act.length : Int) by omega)]
   refine ⟨false, rfl, ⟨fun hh => absurd hh (by decide), fun ⟨j, h3, h4⟩ => ?_⟩⟩
   rw [List.getD_eq_getElem?_getD, List.getElem?_eq_none (by omega)] at h4
   cases h4
theorem some_eq (F : Nat) (hF : 100000000000000000 ≤ F) (act : List Bool) (hl : act.length ≤ 100) : ∃ b, chargenetref18_some F act = some b ∧ (b = true ↔ ∃ j, act.getD j false = true) := by
 obtain ⟨b, b1, b2⟩ := some_l act hl F 0 (by omega) (by omega)
 exact ⟨b, b1, b2.trans ⟨fun ⟨j, _, h⟩ => ⟨j, h⟩, fun ⟨j, h⟩ => ⟨j, Nat.zero_le _, h⟩⟩⟩
section
variable {p : SProblem} {fit : List Int → Bool}
def rsf (caps x : List Int) (act : List Bool) (d : Int) (i : Nat) : Int := if act.getD i false = true then mn (x.getD i 0 + d) (caps.getD i 0) else x.getD i 0
theorem rs_map (caps x : List Int) (act : List Bool) (d : Int) : rs caps x act d = (List.range x.length).map (rsf caps x act d) := rfl
theorem rraise_l (h : VP p) {x : List Int} (hx : Box p.Demands.length (En p p.Demands.length) x) {act : List Bool} (ha : act.length = p.Demands.length) (d : Int) (hd : 0 ≤ d ∧ d ≤ 1099511627777) : ∀ (k i : Nat), i ≤ p.Demands.length → p.Demands.length < k + i →
  chargenetref18_raise_l21 p x act d k (i : Int) ((List.range i).map (rsf (En p p.Demands.length) x act d)) = some (rs (En p p.Demands.length) x act d) ∧
  chargenetref18_raise_own_l21 p x act d k (i : Int) ((List.range i).map (rsf (En p p.Demands.length) x act d)) = some (rs (En p p.Demands.length) x act d)
 | 0, i, h1, h2 => by omega
 | k + 1, i, h1, h2 => by
  have hnd := h.nd
  have hxl := hx.len
  simp only [chargenetref18_raise_l21, chargenetref18_raise_b21, chargenetref18_raise_own_l21, chargenetref18_raise_own_b21]
  rw [Int.toNat_natCast]
  by_cases hi : i < p.Demands.length
  ·have hbi := hx.bd i hi
   have hci := (En_caps h).bd i hi
   have he := En_get p p.Demands.length i hi
   have hD : p.Demands.getD i dSDemand = D p i := rfl
   obtain ⟨i1, i2⟩ := rraise_l h hx ha d hd k (i + 1) (by omega) (by omega)
   have hstep : ∀ v, v = rsf (En p p.Demands.length) x act d i → (List.range (i + 1)).map (rsf (En p p.Demands.length) x act d) = (List.range i).map (rsf (En p p.Demands.length) x act d) ++ [v] := fun v hv => by
    rw [List.range_succ, List.map_append, hv]; rfl
   have g1 : (0 : Int) ≤ (i : Int) ∧ (i : Int) < (x.length : Int) := by omega
   have g2 : (0 : Int) ≤ (i : Int) ∧ (i : Int) < (act.length : Int) := by omega
   have g3 : (0 : Int) ≤ (i : Int) ∧ (i : Int) < (p.Demands.length : Int) := by omega
   have fin : ∀ v, v = rsf (En p p.Demands.length) x act d i → chargenetref18_raise_p26 (i : Int) ((List.range i).map (rsf (En p p.Demands.length) x act d)) (fun t14_11 o1_12 => chargenetref18_raise_l21 p x act d k t14_11 o1_12) v = some (rs (En p p.Demands.length) x act d) ∧
     chargenetref18_raise_own_p26 (i : Int) ((List.range i).map (rsf (En p p.Demands.length) x act d)) (fun t14_11 o1_12 => chargenetref18_raise_own_l21 p x act d k t14_11 o1_12) v = some (rs (En p p.Demands.length) x act d) := fun v hv => by
    unfold chargenetref18_raise_p26 chargenetref18_raise_own_p26
    rw [guard_pos (by simp only [List.length_cons, List.length_nil, List.length_map, List.length_range]; omega), guard_pos (by simp only [List.length_cons, List.length_nil, List.length_map, List.length_range]; omega), wsucc i (by omega), ← hstep v hv]
    exact ⟨i1, i2⟩
   rw [decide_eq_true (show (i : Int) < (x.length : Int) by omega), cond_true, cond_true, guard_pos g1, guard_pos g1, guard_pos g2, guard_pos g2, hD, Go.IntWalk.i64_in (x.getD i 0 + d) (by omega)]
   cases hact : act.getD i false with
   | true =>
    rw [cond_true, cond_true, guard_pos g3, guard_pos g3]
    refine fin _ ?_
    unfold rsf mn
    rw [if_pos hact, he]
   | false =>
    rw [cond_false, cond_false]
    refine fin _ ?_
    unfold rsf
    rw [if_neg (by rw [hact]; decide)]
  ·have : i = p.Demands.length := by omega
   rw [decide_eq_false (show ¬ (i : Int) < (x.length : Int) by omega), rs_map, hxl, this]
   exact ⟨rfl, rfl⟩
theorem rraise_eq (h : VP p) (F : Nat) (hF : 100000000000000000 ≤ F) {x : List Int} (hx : Box p.Demands.length (En p p.Demands.length) x) {act : List Bool} (ha : act.length = p.Demands.length) (d : Int) (hd : 0 ≤ d ∧ d ≤ 1099511627777) :
  chargenetref18_raise F p x act d = some (rs (En p p.Demands.length) x act d) ∧ chargenetref18_raise_own F p x act d = some (rs (En p p.Demands.length) x act d) := by
 have := h.nd
 exact rraise_l h hx ha d hd F 0 (by omega) (by omega)
theorem rfit (h : VP p) (F : Nat) (hF : 100000000000000000 ≤ F) (hf : ∀ l, fit l = true ↔ Fit p (ev l)) {l : List Int} (hb : Box p.Demands.length (En p p.Demands.length) l) : chargenetref18_fits F p l = some (fit l) := by
 obtain ⟨hl, hen⟩ := box_en h hb
 obtain ⟨b, b1, b2⟩ := fits_eq h F hF l hl hen
 have := b2.trans (hf l).symm
 rw [b1]
 cases b <;> cases hq : fit l <;> simp_all
theorem rstep_l (h : VP p) (F : Nat) (hF : 100000000000000000 ≤ F) (hf : ∀ l, fit l = true ↔ Fit p (ev l)) {x : List Int} (hx : Box p.Demands.length (En p p.Demands.length) x) {act : List Bool} (ha : act.length = p.Demands.length) : ∀ (k : Nat) (lo hi : Int), 0 ≤ lo → lo ≤ hi → hi ≤ 1099511627776 → hi - lo < k →
  (lo = 0 ∨ fit (rs (En p p.Demands.length) x act lo) = true) → (hi = 1099511627776 ∨ fit (rs (En p p.Demands.length) x act (hi + 1)) = false) → ∃ d, chargenetref18_step_l18 F p x act k lo hi = some d ∧ Far p.Demands.length (En p p.Demands.length) x act fit d
 | 0, lo, hi, h1, h2, h3, h4, _, _ => by omega
 | k + 1, lo, hi, h1, h2, h3, h4, h5, h6 => by
  simp only [chargenetref18_step_l18, chargenetref18_step_b18]
  by_cases hlt : lo < hi
  ·have hm : Int.tdiv (lo + hi + 1) 2 = (lo + hi + 1) / 2 := by rw [Int.tdiv_eq_ediv_of_nonneg (by omega)]
   have hmid : lo < (lo + hi + 1) / 2 ∧ (lo + hi + 1) / 2 ≤ hi := by omega
   rw [decide_eq_true hlt, cond_true, Go.IntWalk.i64_in (lo + hi) (by omega), Go.IntWalk.i64_in (lo + hi + 1) (by omega), hm, Go.IntWalk.i64_in ((lo + hi + 1) / 2) (by omega), Go.IntWalk.i64_in ((lo + hi + 1) / 2 - 1) (by omega), (rraise_eq h F hF hx ha _ (by omega)).1, Option.bind_some, rfit h F hF hf (rs_box hx act _ (by omega)), Option.bind_some]
   cases hq : fit (rs (En p p.Demands.length) x act ((lo + hi + 1) / 2)) with
   | true => rw [cond_true]; exact rstep_l h F hF hf hx ha k _ hi (by omega) (by omega) h3 (by omega) (.inr hq) h6
   | false =>
    rw [cond_false]
    refine rstep_l h F hF hf hx ha k lo _ h1 (by omega) (by omega) (by omega) h5 (.inr ?_)
    rw [show (lo + hi + 1) / 2 - 1 + 1 = (lo + hi + 1) / 2 by omega]
    exact hq
  ·rw [decide_eq_false hlt]
   have : lo = hi := by omega
   subst this
   refine ⟨lo, rfl, h1, h3, h5, ?_⟩
   rcases h6 with h6 | h6
   ·refine .inl (fun i hi _ => ?_)
    have h7 := hx.bd i hi
    have h8 := (En_caps h).bd i hi
    omega
   ·exact .inr h6
theorem rsingle_l (h : VP p) (F : Nat) (hF : 100000000000000000 ≤ F) (hf : ∀ l, fit l = true ↔ Fit p (ev l)) (K : List Int → List Bool → Option (List Int × Int)) : ∀ (k k' i : Nat) (left : Bool) (x : List Int) (act : List Bool), i + k' = p.Demands.length → k' < k → Box p.Demands.length (En p p.Demands.length) x → act.length = p.Demands.length →
  chargenetref18_Fair_l212 F p K k (i : Int) x act = K (sg (En p p.Demands.length) fit k' i left x act).2.1 (sg (En p p.Demands.length) fit k' i left x act).2.2
 | 0, k', i, left, x, act, h1, h2, _, _ => by omega
 | k + 1, 0, i, left, x, act, h1, h2, hx, ha => by
  simp only [chargenetref18_Fair_l212, chargenetref18_Fair_b212]
  rw [decide_eq_false (by omega), cond_false]
  rfl
 | k + 1, k' + 1, i, left, x, act, h1, h2, hx, ha => by
  have hnd := h.nd
  have hxl := hx.len
  have hi : i < p.Demands.length := by omega
  have hbi := hx.bd i hi
  have hci := (En_caps h).bd i hi
  have he := En_get p p.Demands.length i hi
  have hD : p.Demands.getD i dSDemand = D p i := rfl
  rw [sg]
  rw [he] at hbi hci ⊢
  simp only [chargenetref18_Fair_l212, chargenetref18_Fair_b212, chargenetref18_Fair_p216]
  have g1 : (0 : Int) ≤ (i : Int) ∧ (i : Int) < (x.length : Int) := by omega
  have g2 : (0 : Int) ≤ (i : Int) ∧ (i : Int) < (act.length : Int) := by omega
  rw [decide_eq_true (show (i : Int) < (p.Demands.length : Int) by omega), cond_true, guard_pos (show (0 : Int) ≤ (i : Int) ∧ (i : Int) < (p.Demands.length : Int) by omega), guard_pos g2, Int.toNat_natCast, wsucc i (by omega), hD]
  cases hact : act.getD i false with
  | false =>
   rw [Bool.not_false, cond_true, cond_false]
   exact rsingle_l h F hF hf K k k' (i + 1) left x act (by omega) (by omega) hx ha
  | true =>
   have hset : ∀ v : Int, (x.set i v).getD i 0 = v := fun v => by rw [getD_set, if_pos ⟨rfl, by omega⟩]
   have hself : ∀ v : Int, (x.set i v).set i (x.getD i 0) = x := fun v => by
    rw [List.set_set]
    refine ext_getD 0 (by simp) (fun j hj => ?_)
    rw [getD_set]
    by_cases hji : j = i
    ·rw [if_pos ⟨hji, by omega⟩, hji]
    ·rw [if_neg (fun hh => hji hh.1)]
   rw [Bool.not_true, cond_false, cond_true, guard_pos g1, guard_pos g1, Go.IntWalk.i64_in (x.getD i 0 + 1) (by omega), guard_pos (by simpa using g1), hset, show x.getD i 0 + 1 - 1 = x.getD i 0 by omega, Go.IntWalk.i64_in (x.getD i 0) (by omega), hself]
   have g3 : (0 : Int) ≤ (i : Int) ∧ (i : Int) < ((x.set i (x.getD i 0 + 1)).length : Int) := by simpa using g1
   by_cases hlt : x.getD i 0 < (D p i).Energy
   ·have hb := set_box hx i (by rw [he]; exact hlt)
    rw [decide_eq_true hlt, Bool.true_and, decide_eq_false (show ¬ ((D p i).Energy < x.getD i 0 + 1) by omega), cond_false, rfit h F hF hf hb, Option.bind_some]
    cases hq : fit (x.set i (x.getD i 0 + 1)) with
    | true =>
     rw [Bool.not_true, cond_false, cond_true]
     exact rsingle_l h F hF hf K k k' (i + 1) true _ act (by omega) (by omega) hb ha
    | false =>
     rw [Bool.not_false, cond_true, cond_false, guard_pos g3, guard_pos g3, guard_pos g2]
     exact rsingle_l h F hF hf K k k' (i + 1) left x _ (by omega) (by omega) hx (by simpa using ha)
   ·rw [decide_eq_false hlt, Bool.false_and, cond_false, decide_eq_true (show (D p i).Energy < x.getD i 0 + 1 by omega), cond_true, guard_pos g3, guard_pos g3, guard_pos g2]
    exact rsingle_l h F hF hf K k k' (i + 1) left x _ (by omega) (by omega) hx (by simpa using ha)
theorem rdone (F : Nat) (hF : 100000000000000000 ≤ F) (x : List Int) (act : List Bool) (hl : act.length ≤ 100) (hno : ∀ j, act.getD j false = false) (k : Nat) : chargenetref18_Fair_l161 F p (k + 1) x act = some (x, 0) := by
 simp only [chargenetref18_Fair_l161, chargenetref18_Fair_b161]
 obtain ⟨b, b1, b2⟩ := some_eq F hF act hl
 have hb : b = false := by
  cases b with
  | false => rfl
  | true => obtain ⟨j, hj⟩ := b2.1 rfl; rw [hno j] at hj; cases hj
 rw [b1, hb]
 rfl
theorem rturns_l (h : VP p) (F : Nat) (hF : 100000000000000000 ≤ F) (hf : ∀ l, fit l = true ↔ Fit p (ev l)) : ∀ (k t : Nat) (x : List Int) (act : List Bool), t ≤ p.Demands.length → p.Demands.length + 1 < k + t → FI p.Demands.length (En p p.Demands.length) fit t x act →
  ∃ r, chargenetref18_Fair_l161 F p k x act = some (r, 0) ∧ Reach p.Demands.length (En p p.Demands.length) fit x act r
 | 0, t, x, act, h1, h2, _ => by omega
 | k + 1, t, x, act, h1, h2, hI => by
  have hnd := h.nd
  have hI' := hI
  obtain ⟨⟨lam, hl0, hfm⟩, hcnt⟩ := hI'
  have hx := hfm.box
  have ha := hfm.alen
  by_cases hs : ∃ j, act.getD j false = true
  ·have htn : t < p.Demands.length := by
    rcases Nat.lt_or_ge t p.Demands.length with hlt | hge
    ·exact hlt
    ·obtain ⟨j, hj⟩ := hs
     have := cnt_none act (by omega) j
     rw [hj] at this; cases this
   obtain ⟨d, d1, d2⟩ := rstep_l h F hF hf hx ha F 0 1099511627776 (Int.le_refl _) (by omega) (Int.le_refl _) (by omega) (.inl rfl) (.inl rfl)
   obtain ⟨s1, s2⟩ := fm_step (En_caps h) fit t x act d htn hI d2
   have hrb := rs_box hx act d d2.1
   obtain ⟨g1, g2, g3, g4, g5⟩ := sg_act (n := p.Demands.length) (caps := En p p.Demands.length) (fit := fit) p.Demands.length 0 false (rs (En p p.Demands.length) x act d) act (by omega) hrb.len ha
   have hsg := rsingle_l h F hF hf (fun o1_88 o2_89 => chargenetref18_Fair_l161 F p k o1_88 o2_89) F p.Demands.length 0 false (rs (En p p.Demands.length) x act d) act (by omega) (by omega) hrb ha
   obtain ⟨b, b1, b2⟩ := some_eq F hF act (by omega)
   have hb : b = true := b2.2 hs
   have key : chargenetref18_Fair_l161 F p (k + 1) x act = chargenetref18_Fair_l161 F p k (sg (En p p.Demands.length) fit p.Demands.length 0 false (rs (En p p.Demands.length) x act d) act).2.1 (sg (En p p.Demands.length) fit p.Demands.length 0 false (rs (En p p.Demands.length) x act d) act).2.2 := by
    simp only [chargenetref18_Fair_l161, chargenetref18_Fair_b161]
    unfold chargenetref18_step
    rw [b1, hb, Option.bind_some, cond_true, d1, Option.bind_some, (rraise_eq h F hF hx ha d (by have := d2.1; have := d2.2.1; omega)).2, Option.bind_some]
    exact hsg
   rw [key]
   cases hlft : (sg (En p p.Demands.length) fit p.Demands.length 0 false (rs (En p p.Demands.length) x act d) act).1 with
   | true =>
    obtain ⟨r, r1, r2⟩ := rturns_l h F hF hf k (t + 1) _ _ (by omega) (by omega) (s2 hlft)
    exact ⟨r, r1, .turn hs d2 r2⟩
   | false =>
    have hno : ∀ j, (sg (En p p.Demands.length) fit p.Demands.length 0 false (rs (En p p.Demands.length) x act d) act).2.2.getD j false = false := fun j => by
     by_cases hj : j < p.Demands.length
     ·exact (g5 hlft).2 j (Nat.zero_le _) hj
     ·rw [List.getD_eq_getElem?_getD, List.getElem?_eq_none (by omega)]; rfl
    cases k with
    | zero => omega
    | succ k => exact ⟨_, rdone F hF _ _ (by omega) hno k, .turn hs d2 (.done hno)⟩
  ·have hno : ∀ j, act.getD j false = false := fun j => by
    cases hq : act.getD j false with
    | false => rfl
    | true => exact absurd ⟨j, hq⟩ hs
   exact ⟨x, rdone F hF x act (by omega) hno k, .done hno⟩
theorem ract_l (h : VP p) (F : Nat) : ∀ (k i : Nat) (o : List Bool), i ≤ p.Demands.length → p.Demands.length < k + i → o.length = p.Demands.length → (∀ j, j < i → o.getD j false = true) → chargenetref18_Fair_l240 F p k (i : Int) o = chargenetref18_Fair_p233 F p (List.replicate p.Demands.length true)
 | 0, i, o, h1, h2, _, _ => by omega
 | k + 1, i, o, h1, h2, ho, hg => by
  have hnd := h.nd
  simp only [chargenetref18_Fair_l240, chargenetref18_Fair_b240, List.length_replicate, Int.toNat_natCast]
  by_cases hi : i < p.Demands.length
  ·rw [decide_eq_true (by omega), cond_true, guard_pos (by omega), wsucc i (by omega)]
   refine ract_l h F k (i + 1) _ (by omega) (by omega) (by simpa using ho) (fun j hj => ?_)
   rw [getD_set]
   by_cases hji : j = i
   ·subst hji; rw [if_pos ⟨rfl, by omega⟩]
   ·rw [if_neg (fun hh => hji hh.1)]; exact hg j (by omega)
  ·rw [decide_eq_false (by omega), cond_false]
   congr 1
   refine ext_getD false (by simp [ho]) (fun j hj => ?_)
   rw [hg j (by omega), List.getD_eq_getElem?_getD, List.getElem?_replicate, if_pos (by omega)]; rfl
theorem rfair_eq (h : VP p) (F : Nat) (hF : 100000000000000000 ≤ F) (hv2 : chargenetref18_Valid F p = some 0) (hf : ∀ l, fit l = true ↔ Fit p (ev l)) :
  ∃ r, chargenetref18_Fair F p = some (r, 0) ∧ Reach p.Demands.length (En p p.Demands.length) fit (List.replicate p.Demands.length 0) (List.replicate p.Demands.length true) r := by
 have hnd := h.nd
 unfold chargenetref18_Fair
 rw [hv2, Option.bind_some, decide_eq_true rfl, Bool.not_true, cond_false, guard_pos (by omega), guard_pos (by omega), Int.toNat_natCast]
 have e1 := ract_l h F F 0 (List.replicate p.Demands.length false) (by omega) (by omega) (by simp) (fun j hj => by omega)
 rw [show ((0 : Nat) : Int) = 0 from rfl] at e1
 rw [e1]
 unfold chargenetref18_Fair_p233
 rw [Int.toNat_natCast]
 exact rturns_l h F hF hf F 0 _ _ (by omega) (by omega) (fm_start (En_caps h) fit (fit_zero h hf _))
end
end Go.Proofs.Ytfefnffdocmlmaa.M
