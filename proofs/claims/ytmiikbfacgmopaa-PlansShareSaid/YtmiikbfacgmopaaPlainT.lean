/- Plain laws: demands at one feeder, which can use one slot. -/
import Derived.Test.YtmiikbfacgmopaaPlainR
import Derived.Test.YtmiikbfacgmopaaPlainL
import Derived.Test.YtmiikbfacgmopaaPlainS
namespace Go.Proofs.Ytmiikbfacgmopaa.M
open Go Go.Proofs Go.Proofs.Ytmiikbfacgmopaa.E Go.Proofs.Ytmiikbfacgmopaa.W
set_option linter.unusedVariables false
set_option linter.unusedSimpArgs false
theorem sg_box {n : Nat} {caps : List Int} {fit : List Int → Bool} : ∀ (k i : Nat) (left : Bool) (x : List Int) (act : List Bool), Box n caps x → Box n caps (sg caps fit k i left x act).2.1
 | 0, _, _, _, _, h => h
 | k + 1, i, left, x, act, h => by
  rw [sg]
  cases act.getD i false with
  | false => rw [cond_false]; exact sg_box k (i + 1) left x act h
  | true =>
   rw [cond_true]
   by_cases hlt : x.getD i 0 < caps.getD i 0
   ·rw [decide_eq_true hlt, Bool.true_and]
    cases fit (x.set i (x.getD i 0 + 1)) with
    | true => rw [cond_true]; exact sg_box k (i + 1) true _ act (set_box h i hlt)
    | false => rw [cond_false]; exact sg_box k (i + 1) left x _ h
   ·rw [decide_eq_false hlt, Bool.false_and, cond_false]; exact sg_box k (i + 1) left x _ h
def En (p : SProblem) : Nat → List Int
 | 0 => []
 | i + 1 => En p i ++ [(D p i).Energy]
theorem En_len (p : SProblem) : ∀ n, (En p n).length = n
 | 0 => rfl
 | n + 1 => by simp [En, En_len p n]
theorem En_get (p : SProblem) : ∀ (n i : Nat), i < n → (En p n).getD i 0 = (D p i).Energy
 | 0, i, h => by omega
 | n + 1, i, h => by
  simp only [En]
  rw [getD_append, En_len]
  by_cases hi : i < n
  ·rw [if_pos hi, En_get p n i hi]
  ·rw [if_neg hi]
   have : i = n := by omega
   subst this
   simp
section
variable {p : SProblem} {fit : List Int → Bool}
section
variable {p : SProblem} {fit : List Int → Bool}
theorem En_caps (h : VP p) : Caps p.Demands.length (En p p.Demands.length) := ⟨En_len ..  , by have := h.nd; omega, fun i hi => by
 have := h.dem i hi
 unfold okDem at this
 rw [En_get p _ i hi]
 unfold D
 omega⟩
theorem box_en (h : VP p) {l : List Int} (hb : Box p.Demands.length (En p p.Demands.length) l) : l.length = p.Demands.length ∧ enOk l := by
 refine ⟨hb.len, fun j hj => ?_⟩
 have h1 := hb.bd j (by have := hb.len; omega)
 have h2 := (En_caps h).bd j (by have := hb.len; omega)
 omega
theorem fcaps_l (h : VP p) (F : Nat) (c : SNet) : ∀ (k i : Nat), i ≤ p.Demands.length → p.Demands.length < k + i → plan_Fair_l18 F p c k (i : Int) (En p i) = plan_Fair_p9 F c (En p p.Demands.length)
 | 0, i, h1, h2 => by omega
 | k + 1, i, h1, h2 => by
  have hnd := h.nd
  simp only [plan_Fair_l18, plan_Fair_b18]
  by_cases hi : i < p.Demands.length
  ·rw [decide_eq_true (show (i : Int) < (p.Demands.length : Int) by omega), cond_true, guard_pos (show (0 : Int) ≤ (i : Int) ∧ (i : Int) < (p.Demands.length : Int) by omega), guard_pos (by simp only [List.length_cons, List.length_nil, En_len]; omega), Int.toNat_natCast, wsucc i (by omega)]
   exact fcaps_l h F c k (i + 1) (by omega) (by omega)
  ·have : i = p.Demands.length := by omega
   subst this
   rw [decide_eq_false (show ¬ ((p.Demands.length : Int) < (p.Demands.length : Int)) by omega), cond_false]
end
def demL (e : List Int) (m : Int) : Nat → List SDemand
 | 0 => []
 | i + 1 => demL e m i ++ [⟨0, 100000, e.getD i 0, 0, m⟩]
theorem demL_len (e : List Int) (m : Int) : ∀ n, (demL e m n).length = n
 | 0 => rfl
 | n + 1 => by simp [demL, demL_len e m n]
theorem demL_get (e : List Int) (m : Int) : ∀ n i, i < n → (demL e m n).getD i dSDemand = ⟨0, 100000, e.getD i 0, 0, m⟩
 | 0, i, h => by omega
 | n + 1, i, h => by
  simp only [demL]
  rw [getD_append, demL_len]
  by_cases hi : i < n
  ·rw [if_pos hi, demL_get e m n i hi]
  ·rw [if_neg hi]
   have : i = n := by omega
   subst this
   simp
def p0 (w m : Int) (e : List Int) : SProblem := ⟨[-1], [[w]], 0, m, demL e m e.length⟩
structure In (w m : Int) (e : List Int) : Prop where
 w : 0 ≤ w ∧ w ≤ 100000
 m : 1 ≤ m ∧ m ≤ 1440
 len : e.length ≤ 8
 en : ∀ i, i < e.length → 0 ≤ e.getD i 0 ∧ e.getD i 0 ≤ 1073741824
section
variable {w m : Int} {e : List Int}
theorem p0_len : (p0 w m e).Demands.length = e.length := demL_len e m _
theorem p0_D {i : Nat} (hi : i < e.length) : D (p0 w m e) i = ⟨0, 100000, e.getD i 0, 0, m⟩ := demL_get e m _ i hi
theorem p0_VP (h : In w m e) : VP (p0 w m e) := by
 have h1 := h.len
 have h2 := h.m
 have h3 := h.w
 have hl := p0_len (w := w) (m := m) (e := e)
 refine ⟨by simp [p0], by simp [p0], by omega, ?_, by simp [p0], fun f hf => ?_, fun t ht => ?_, fun t ht f hf => ?_, by simp [p0], h2, ?_, fun i hi => ?_⟩
 ·rw [hl]; simp only [p0, List.length_singleton]; omega
 ·have : f = 0 := by simp [p0] at hf; omega
  subst this
  show -1 ≤ (-1 : Int) ∧ (-1 : Int) < 0
  omega
 ·have : t = 0 := by simp [p0] at ht; omega
  subst this
  rfl
 ·have e1 : t = 0 := by simp [p0] at ht; omega
  have e2 : f = 0 := by simp [p0] at hf; omega
  subst e1 e2
  show 0 ≤ w ∧ w ≤ 1073741824
  omega
 ·show (0 : Int) + ((1 : Nat) : Int) * m ≤ 268435456
  omega
 ·rw [hl] at hi
  have h4 := h.en i hi
  have h5 := p0_D (w := w) (m := m) hi
  unfold D at h5
  rw [h5]
  unfold okDem
  show (0 : Int) ≤ 0 ∧ (0 : Int) < ((1 : Nat) : Int) ∧ (0 : Int) ≤ 100000 ∧ (100000 : Int) ≤ 3145728 ∧ 0 ≤ e.getD i 0 ∧ e.getD i 0 ≤ 1099511627776 ∧ (0 : Int) ≤ 0 ∧ 0 ≤ m ∧ m ≤ 268435456
  omega
theorem wm_bd (h : In w m e) : 0 ≤ w * m ∧ w * m ≤ 100000 * m ∧ 100000 * m ≤ 144000000 := by
 have h2 := h.m
 have h3 := h.w
 exact ⟨Int.mul_nonneg h3.1 (by omega), Int.mul_le_mul_of_nonneg_right h3.2 (by omega), by omega⟩
theorem us_p0 (h : In w m e) {i : Nat} (hi : i < e.length) : us (p0 w m e) (D (p0 w m e) i) 0 = true := by
 unfold us
 rw [p0_D hi]
 refine decide_eq_true ?_
 show (0 : Int) ≤ 0 + ((0 : Nat) : Int) * m ∧ 0 + ((0 : Nat) : Int) * m + m ≤ m
 simp
theorem smU (h : In w m e) (X : Nat → Bool) : ∀ n, n ≤ e.length → sm (cg X) (AllU (p0 w m e) n) = S (fun i => bI (X (2 + i) && !X (nod (p0 w m e) 0 0)) (100000 * m)) n
 | 0, _ => rfl
 | n + 1, hn => by
  simp only [AllU]
  rw [sm_append, smU h X n (by omega), S_succ]
  congr 1
  show sm (cg X) ([] ++ (bif us (p0 w m e) (D (p0 w m e) n) 0 then [useA (p0 w m e) n 0] else [])) = _
  rw [us_p0 h (by omega), cond_true, List.nil_append]
  simp only [sm, cg, useA]
  rw [p0_D (by omega), Int.toNat_natCast, Int.toNat_natCast, Int.add_zero]
  rfl
theorem smF (h : In w m e) (X : Nat → Bool) : sm (cg X) (AllF (p0 w m e) 1) = bI (X (nod (p0 w m e) 0 0) && !X 1) (w * m) := by
 have h1 := wm_bd h
 show sm (cg X) ([] ++ ([] ++ [feedA (p0 w m e) 0 0])) = _
 rw [List.nil_append, List.nil_append]
 have h2 : lim (p0 w m e) 0 0 = w * m := by
  show (if 1099511627776 < w * m then 1099511627776 else w * m) = w * m
  rw [if_neg (by omega)]
 have h3 : up (p0 w m e) 0 0 = 1 := rfl
 simp only [sm, cg, feedA]
 rw [h2, h3, Int.toNat_natCast, Int.toNat_natCast, Int.add_zero]
theorem p0_fit (h : In w m e) (l : Nat → Int) (hl : ∀ i, i < e.length → 0 ≤ l i) : Fit (p0 w m e) l ↔ S l e.length ≤ w * m := by
 have hwm := wm_bd h
 have hln := p0_len (w := w) (m := m) (e := e)
 have hCX : ∀ X, CX (p0 w m e) X = S (fun i => bI (X (2 + i) && !X (nod (p0 w m e) 0 0)) (100000 * m)) e.length + bI (X (nod (p0 w m e) 0 0) && !X 1) (w * m) := fun X => by
  unfold CX
  rw [hln, smU h X _ (Nat.le_refl _)]
  congr 1
  exact smF h X
 constructor
 ·intro hf
  have := hf (fun v => decide (v ≠ 1)) (by decide) (by decide)
  rw [hCX, hln] at this
  have hn : decide (nod (p0 w m e) 0 0 ≠ 1) = true := decide_eq_true (by unfold nod; omega)
  have e1 : S (fun i => bI (decide (2 + i ≠ 1)) (l i)) e.length = S l e.length := S_congr fun i _ => by
   rw [decide_eq_true (show 2 + i ≠ 1 by omega)]; rfl
  have e2 : S (fun i => bI (decide (2 + i ≠ 1) && !decide (nod (p0 w m e) 0 0 ≠ 1)) (100000 * m)) e.length = 0 := by
   rw [S_congr (g' := fun _ => 0) fun i _ => by rw [hn, Bool.not_true, Bool.and_false]; rfl, S_zero]
  rw [e1, e2, hn] at this
  have e3 : bI (true && !decide ((1 : Nat) ≠ 1)) (w * m) = w * m := rfl
  rw [e3] at this
  omega
 ·intro hs X h0 h1
  rw [hCX, hln, h1]
  have hsum : S (fun i => bI (X (2 + i)) (l i)) e.length ≤ S l e.length := S_le fun i hi => by
   cases X (2 + i)
   ·exact hl i hi
   ·exact Int.le_refl _
  cases hn : X (nod (p0 w m e) 0 0) with
  | true =>
   have e2 : S (fun i => bI (X (2 + i) && !true) (100000 * m)) e.length = 0 := by
    rw [S_congr (g' := fun _ => 0) fun i _ => by rw [Bool.not_true, Bool.and_false]; rfl, S_zero]
   rw [e2]
   show _ ≤ 0 + bI true (w * m)
   show _ ≤ 0 + w * m
   omega
  | false =>
   have e2 : S (fun i => bI (X (2 + i)) (l i)) e.length ≤ S (fun i => bI (X (2 + i) && !false) (100000 * m)) e.length := S_le fun i hi => by
    cases X (2 + i)
    ·exact Int.le_refl _
    ·show l i ≤ 100000 * m
     have : l i ≤ S l e.length := by
      have h5 := S_le (g := fun v => if i = v then l i else 0) (g' := l) (n := e.length) fun j hj => by
       by_cases hij : i = j
       ·subst hij; rw [if_pos rfl]; exact Int.le_refl _
       ·rw [if_neg hij]; exact hl j hj
      rw [S_one, if_pos hi] at h5
      exact h5
     omega
   have e3 : bI (false && !false) (w * m) = 0 := rfl
   rw [e3]
   omega
theorem S_sl : ∀ l : List Int, S (ev l) l.length = sl l
 | [] => rfl
 | x :: l => by
  rw [List.length_cons, S_shift, sl, ← S_sl l]
  rfl
theorem call_share (h : In w m e) (F : Nat) (hF : 100000000000000000 ≤ F) : ∀ l : List Int, Box e.length (En (p0 w m e) e.length) l → ∀ A, (∃ q, A = PA (p0 w m e) q) → ∃ A', (∃ q, A' = PA (p0 w m e) q) ∧ plan_Fair_1 F l (NN (p0 w m e) : Int) A = some (decide (sl l ≤ w * m), A') := by
 rintro l hb _ ⟨q, rfl⟩
 have hln := p0_len (w := w) (m := m) (e := e)
 obtain ⟨hl, hen⟩ := box_en (p0_VP h) (l := l) (by rw [hln]; exact hb)
 obtain ⟨fl, ok, r1, r2, _⟩ := route_eq (p0_VP h) F hF q l hl hen
 have hok : ok = decide (sl l ≤ w * m) := by
  have h1 := r2.trans (p0_fit h (ev l) (fun i hi => (hen i (by omega)).1))
  rw [← hln, ← hl, S_sl] at h1
  by_cases hq : sl l ≤ w * m
  ·rw [h1.2 hq, decide_eq_true hq]
  ·rw [decide_eq_false hq]
   cases ok with
   | false => rfl
   | true => exact absurd (h1.1 rfl) hq
 refine ⟨_, ⟨ev l, rfl⟩, ?_⟩
 unfold plan_Fair_1
 rw [r1, Option.bind_some, guard_pos (by unfold PA; simp only [List.length_append, Src_len]), hok]
theorem Sh.sum {caps : List Int} {total : Int} {l : List Int} (h : Sh caps total l) : sl l ≤ total := by
 rcases h with ⟨h1, rfl⟩ | ⟨k, h1, h2, h3, rfl⟩
 ·exact h1
 ·rw [sl_bump k caps _ (by omega) (by omega)]; omega
theorem p0_fair (h : In w m e) (F : Nat) (hF : 100000000000000000 ≤ F) (hv : plan_Valid F (p0 w m e) = some 0) : ∃ a, plan_Fair F (p0 w m e) = some (a, 0) ∧ Sh (En (p0 w m e) e.length) (w * m) a ∧ Box e.length (En (p0 w m e) e.length) a := by
 have hln := p0_len (w := w) (m := m) (e := e)
 have hwm := wm_bd h
 have hc := En_caps (p0_VP h)
 rw [hln] at hc
 have h8 := h.len
 have hz : sl (List.replicate e.length 0) = 0 := by
  rw [← S_sl, List.length_replicate]
  exact (S_congr fun i _ => by unfold ev; rw [getD_rep]).trans (S_zero _)
 have key := Fillf1_11.fill_eq (F := F) (by omega) hc (NN (p0 w m e) : Int) (PS := fun A => ∃ q, A = PA (p0 w m e) q) (fit := fun l => decide (sl l ≤ w * m)) (call_share h F hF) (ShI e.length (En (p0 w m e) e.length) (w * m)) (fun r => Sh (En (p0 w m e) e.length) (w * m) r ∧ Box e.length (En (p0 w m e) e.length) r)
  (fun t x act hI => by
   cases t with
   | zero => obtain ⟨rfl, rfl⟩ := hI; exact ⟨box_zero hc, by simp⟩
   | succ t => exact ⟨hI.1, hI.2.1⟩)
  (fun t x act d htn hI hfar => by
   have hb : Box e.length (En (p0 w m e) e.length) x := by
    cases t with
    | zero => obtain ⟨rfl, rfl⟩ := hI; exact box_zero hc
    | succ t => exact hI.1
   obtain ⟨s1, s2⟩ := sh_step hc (w * m) hwm.1 _ (fun _ => rfl) t x act d htn hI hfar
   exact ⟨fun hl => ⟨s1 hl, sg_box _ _ _ _ _ (rs_box hb _ _ hfar.1)⟩, s2⟩)
  (fun x act hI => by
   obtain ⟨n, hn⟩ : ∃ n, n = e.length := ⟨_, rfl⟩
   cases n with
   | zero =>
    have hcl := hc.len
    have hcaps : En (p0 w m e) e.length = [] := List.length_eq_zero_iff.1 (by omega)
    have hI' : ShI 0 (En (p0 w m e) e.length) (w * m) 0 x act := by
     have := hI
     rw [← hn] at this
     rw [← hn]; exact this
    obtain ⟨rfl, _⟩ := hI'
    refine ⟨.inl ⟨by rw [hcaps]; exact hwm.1, by rw [hcaps]; rfl⟩, ?_⟩
    have := box_zero hc
    rw [← hn] at this ⊢
    exact this
   | succ n =>
    have hI' : ShI e.length (En (p0 w m e) e.length) (w * m) (n + 1) x act := by rw [hn]; exact hI
    exact ⟨hI'.2.2.1, hI'.1⟩)
  (fun _ => ⟨rfl, rfl⟩) (A := PA (p0 w m e) (fun _ => 0)) ⟨_, rfl⟩
 rcases key with ⟨k1, _⟩ | ⟨_, r, A', k2, k3, k4⟩
 ·rw [hz] at k1; exact absurd hwm.1 (of_decide_eq_false k1)
 ·refine ⟨r, ?_, k3, k4⟩
  unfold plan_Fair
  rw [hv, Option.bind_some, decide_eq_true rfl, Bool.not_true, cond_false, network_eq (p0_VP h) F hF, Option.bind_some]
  have e1 := fcaps_l (p0_VP h) F ⟨(NN (p0 w m e) : Int), PA (p0 w m e) (fun _ => 0)⟩ F 0 (by omega) (by omega)
  refine Eq.trans e1 ?_
  unfold plan_Fair_p9
  rw [hln, k2]
  rfl
theorem En_p0 : ∀ n, n ≤ e.length → En (p0 w m e) n = e.take n
 | 0, _ => by simp [En]
 | n + 1, hn => by
  simp only [En]
  rw [En_p0 n (by omega), p0_D (by omega), take_succ' (by omega)]
end
end
end Go.Proofs.Ytmiikbfacgmopaa.M
