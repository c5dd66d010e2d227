/- Plain laws of Fill, with a function that carries a network whose arcs it writes. -/
import Derived.Test.YtfefnffdocmlmaaPlainK
namespace Go.Proofs.Ytfefnffdocmlmaa.M.Fillf1_31
open Go Go.Proofs.Ytfefnffdocmlmaa.E Go.Proofs.Ytfefnffdocmlmaa.W
set_option linter.unusedVariables false
set_option linter.unusedSimpArgs false
theorem raise_l (F : Nat) (hF : 100 ≤ F) {n : Nat} {caps x : List Int} (hc : Caps n caps) (hx : Box n caps x) {act : List Bool} (ha : act.length = n) (d : Int) (hd : 0 ≤ d ∧ d ≤ 1099511627777) : ∀ (k i : Nat) (o : List Int), i ≤ n → n < k + i → o.length = n →
  (∀ j, j < i → o.getD j 0 = (rs caps x act d).getD j 0) → fair_division_raise_f0_p31_l23 F caps x act d k (i : Int) o = some (rs caps x act d)
 | 0, i, o, h1, h2, _, _ => by omega
 | k + 1, i, o, h1, h2, ho, hg => by
  have hcl := hc.len
  have h64 := hc.n64
  have hxl := hx.len
  simp only [fair_division_raise_f0_p31_l23, fair_division_raise_f0_p31_b23, fair_division_raise_f0_p31_p28]
  by_cases hi : i < n
  ·have hci := hc.bd i hi
   have hxi := hx.bd i hi
   have hr := rs_get caps x act d i (by omega)
   rw [decide_eq_true (by omega), cond_true, guard_pos (by omega), guard_pos (by omega)]
   have hnext : ∀ v : Int, v = (rs caps x act d).getD i 0 → E.guard ((0 : Int) ≤ (i : Int) ∧ (i : Int) < (o.length : Int)) (fair_division_raise_f0_p31_l23 F caps x act d k (IntKind.wrap .i64 ((i : Int) + 1)) (o.set ((i : Int)).toNat v)) = some (rs caps x act d) := by
    intro v hv
    rw [guard_pos (by omega), wsucc i (by omega), Int.toNat_natCast]
    refine raise_l F hF hc hx ha d hd k (i + 1) _ (by omega) (by omega) (by simpa using ho) (fun j hj => ?_)
    rw [getD_set]
    by_cases hji : j = i
    ·subst hji; rw [if_pos ⟨rfl, by omega⟩]; exact hv
    ·rw [if_neg (fun hh => hji hh.1)]; exact hg j (by omega)
   rw [Int.toNat_natCast] at hnext ⊢
   cases hact : act.getD i false with
   | true =>
    rw [cond_true, guard_pos (by omega), Go.IntWalk.i64_in _ (by omega), least_eq F hF, Option.bind_some]
    exact hnext _ (by rw [hr, if_pos hact])
   | false =>
    rw [cond_false]
    exact hnext _ (by rw [hr, if_neg (by rw [hact]; decide)])
  ·rw [decide_eq_false (by omega), cond_false]
   congr 1
   have hrl := rs_len caps x act d
   exact ext_getD 0 (by omega) (fun j hj => hg j (by omega))
section
variable {F : Nat} {n : Nat} {caps : List Int} {fit : List Int → Bool} {PS : List SArc → Prop}
theorem raise_eq (hF : 100 ≤ F) (hc : Caps n caps) (N : Int) {x : List Int} (hx : Box n caps x) {act : List Bool} (ha : act.length = n) {trial : List Int} (ht : trial.length = n) (d : Int) (hd : 0 ≤ d ∧ d ≤ 1099511627777) (A : List SArc) :
  fair_division_raise_f0_p31 F caps N A x act trial d = some (rs caps x act d) := by
 have := hc.n64
 have := raise_l F hF hc hx ha d hd F 0 trial (by omega) (by omega) ht (fun j hj => by omega)
 unfold fair_division_raise_f0_p31
 simpa only [Int.natCast_zero] using this
theorem raisable_eq (hF : 100 ≤ F) (hc : Caps n caps) (N : Int) (hfit : ∀ l : List Int, Box n caps l → ∀ A, PS A → ∃ A', PS A' ∧ plan_Fair_1 F l N A = some (fit l, A')) {x : List Int} (hx : Box n caps x) {act : List Bool} (ha : act.length = n) {trial : List Int} (ht : trial.length = n) (d : Int) (hd : 0 ≤ d ∧ d ≤ 1099511627777) {A : List SArc} (hA : PS A) :
  ∃ A', PS A' ∧ fair_division_raisable_f0_p31 F caps N A x act trial d = some (fit (rs caps x act d), A', rs caps x act d) := by
 obtain ⟨A', h1, h2⟩ := hfit _ (rs_box hx act d hd.1) A hA
 refine ⟨A', h1, ?_⟩
 unfold fair_division_raisable_f0_p31
 rw [raise_eq hF hc N hx ha ht d hd, Option.bind_some, h2, Option.bind_some]
theorem p7_eq (hF : 100 ≤ F) (hc : Caps n caps) (N : Int) {x : List Int} (hx : Box n caps x) {act : List Bool} (ha : act.length = n) {trial : List Int} (ht : trial.length = n) (d : Int) (hd : 0 ≤ d ∧ d ≤ 1099511627777) (A : List SArc) :
  fair_division_together_f0_p31_p7 F caps N x act d A trial = some (A, rs caps x act d, rs caps x act d) := by
 unfold fair_division_together_f0_p31_p7
 rw [raise_eq hF hc N hx ha ht d hd, Option.bind_some, copy_all _ _ (rs_len ..)]
theorem search_l (hF : 100 ≤ F) (hc : Caps n caps) (N : Int) (hfit : ∀ l : List Int, Box n caps l → ∀ A, PS A → ∃ A', PS A' ∧ plan_Fair_1 F l N A = some (fit l, A')) {x : List Int} (hx : Box n caps x) {act : List Bool} (ha : act.length = n) : ∀ (k : Nat) (d bad : Int) (A : List SArc) (o : List Int), PS A → o.length = n → 0 ≤ d → d < bad → bad ≤ 1099511627776 → bad - d ≤ k → 0 < k →
  (d = 0 ∨ fit (rs caps x act d) = true) → fit (rs caps x act bad) = false → ∃ d' A', PS A' ∧ fair_division_together_f0_p31_l27 F caps N x act k d bad A o = some (A', rs caps x act d', rs caps x act d') ∧ Far n caps x act fit d'
 | 0, d, bad, A, o, _, _, _, _, _, _, h0, _, _ => by omega
 | k + 1, d, bad, A, o, hA, ho, h1, h2, h3, h4, _, h5, h6 => by
  simp only [fair_division_together_f0_p31_l27, fair_division_together_f0_p31_b27]
  rw [Go.IntWalk.i64_in (bad - d) (by omega)]
  by_cases hb : 1 < bad - d
  ·have hm : Int.tdiv (bad - d) 2 = (bad - d) / 2 := by rw [Int.tdiv_eq_ediv_of_nonneg (by omega)]
   obtain ⟨A1, hA1, e1⟩ := raisable_eq hF hc N hfit hx ha ho (d + (bad - d) / 2) (by omega) hA
   rw [decide_eq_true hb, cond_true, hm, Go.IntWalk.i64_in ((bad - d) / 2) (by omega), Go.IntWalk.i64_in (d + (bad - d) / 2) (by omega), e1, Option.bind_some]
   simp only
   have hl := (rs_len caps x act (d + (bad - d) / 2)).trans hx.len
   cases hf : fit (rs caps x act (d + (bad - d) / 2)) with
   | true => rw [cond_true]; exact search_l hF hc N hfit hx ha k _ bad _ _ hA1 hl (by omega) (by omega) h3 (by omega) (by omega) (.inr hf) h6
   | false => rw [cond_false]; exact search_l hF hc N hfit hx ha k d _ _ _ hA1 hl h1 (by omega) (by omega) (by omega) (by omega) h5 hf
  ·rw [decide_eq_false hb, cond_false, p7_eq hF hc N hx ha ho d (by omega) A]
   refine ⟨d, A, hA, rfl, h1, by omega, h5, .inr ?_⟩
   have : bad = d + 1 := by omega
   rw [← this]; exact h6
theorem p36_eq (hF : 2000000000000 ≤ F) (hc : Caps n caps) (N : Int) (hfit : ∀ l : List Int, Box n caps l → ∀ A, PS A → ∃ A', PS A' ∧ plan_Fair_1 F l N A = some (fit l, A')) {x : List Int} (hx : Box n caps x) {act : List Bool} (ha : act.length = n) {trial : List Int} (ht : trial.length = n)
  (most : Int) (hm : 0 ≤ most ∧ most ≤ 1099511627776) (hall : ∀ i, i < n → act.getD i false = true → caps.getD i 0 - x.getD i 0 ≤ most) {A : List SArc} (hA : PS A) :
  ∃ d A', PS A' ∧ fair_division_together_f0_p31_p36 F caps N A x act trial most = some (A', rs caps x act d, rs caps x act d) ∧ Far n caps x act fit d := by
 unfold fair_division_together_f0_p31_p36 fair_division_together_f0_p31_p32
 by_cases h0 : 0 < most
 ·obtain ⟨A1, hA1, e1⟩ := raisable_eq (by omega) hc N hfit hx ha ht most (by omega) hA
  rw [decide_eq_true h0, cond_true, e1, Option.bind_some]
  simp only
  have hl := (rs_len caps x act most).trans hx.len
  cases hf : fit (rs caps x act most) with
  | true =>
   rw [Bool.not_true, cond_false, p7_eq (by omega) hc N hx ha hl most (by omega) A1]
   exact ⟨most, A1, hA1, rfl, hm.1, hm.2, .inr hf, .inl hall⟩
  | false =>
   rw [Bool.not_false, cond_true]
   exact search_l (by omega) hc N hfit hx ha F 0 most A1 _ hA1 hl (Int.le_refl _) h0 hm.2 (by omega) (by omega) (.inl rfl) hf
 ·rw [decide_eq_false h0, cond_false, cond_false, p7_eq (by omega) hc N hx ha ht most (by omega) A]
  exact ⟨most, A, hA, rfl, hm.1, hm.2, .inl (by omega), .inl hall⟩
theorem most_l (hF : 2000000000000 ≤ F) (hc : Caps n caps) (N : Int) (hfit : ∀ l : List Int, Box n caps l → ∀ A, PS A → ∃ A', PS A' ∧ plan_Fair_1 F l N A = some (fit l, A')) {x : List Int} (hx : Box n caps x) {act : List Bool} (ha : act.length = n) {trial : List Int} (ht : trial.length = n) {A : List SArc} (hA : PS A) : ∀ (k i : Nat) (most : Int), i ≤ n → n < k + i →
  0 ≤ most → most ≤ 1099511627776 → (∀ j, j < i → act.getD j false = true → caps.getD j 0 - x.getD j 0 ≤ most) →
  ∃ d A', PS A' ∧ fair_division_together_f0_p31_l53 F caps N A x act trial k most (i : Int) = some (A', rs caps x act d, rs caps x act d) ∧ Far n caps x act fit d
 | 0, i, most, h1, h2, _, _, _ => by omega
 | k + 1, i, most, h1, h2, h3, h4, h5 => by
  have hcl := hc.len
  have h64 := hc.n64
  have hxl := hx.len
  simp only [fair_division_together_f0_p31_l53, fair_division_together_f0_p31_b53, fair_division_together_f0_p31_p56]
  by_cases hi : i < n
  ·have hci := hc.bd i hi
   have hxi := hx.bd i hi
   rw [decide_eq_true (by omega), cond_true, guard_pos (by omega), guard_pos (by omega), Int.toNat_natCast, wsucc i (by omega)]
   cases hact : act.getD i false with
   | true =>
    rw [cond_true, guard_pos (by omega), Go.IntWalk.i64_in (caps.getD i 0 - x.getD i 0) (by omega)]
    refine most_l hF hc N hfit hx ha ht hA k (i + 1) _ (by omega) (by omega) (by split <;> omega) (by split <;> omega) (fun j hj hja => ?_)
    by_cases hji : j = i
    ·subst hji; split <;> omega
    ·have := h5 j (by omega) hja
     split <;> omega
   | false =>
    rw [cond_false]
    refine most_l hF hc N hfit hx ha ht hA k (i + 1) most (by omega) (by omega) h3 h4 (fun j hj hja => ?_)
    by_cases hji : j = i
    ·subst hji; rw [hact] at hja; cases hja
    ·exact h5 j (by omega) hja
  ·rw [decide_eq_false (by omega), cond_false]
   exact p36_eq hF hc N hfit hx ha ht most ⟨h3, h4⟩ (fun j hj hja => h5 j (by omega) hja) hA
theorem together_eq (hF : 2000000000000 ≤ F) (hc : Caps n caps) (N : Int) (hfit : ∀ l : List Int, Box n caps l → ∀ A, PS A → ∃ A', PS A' ∧ plan_Fair_1 F l N A = some (fit l, A')) {x : List Int} (hx : Box n caps x) {act : List Bool} (ha : act.length = n) {trial : List Int} (ht : trial.length = n) {A : List SArc} (hA : PS A) :
  ∃ d A', PS A' ∧ fair_division_together_f0_p31 F caps N A x act trial = some (A', rs caps x act d, rs caps x act d) ∧ Far n caps x act fit d := by
 have := hc.n64
 have := most_l hF hc N hfit hx ha ht hA F 0 0 (by omega) (by omega) (Int.le_refl _) (by omega) (fun j hj => by omega)
 unfold fair_division_together_f0_p31
 simpa only [Int.natCast_zero] using this
theorem single_l (hF : 100 ≤ F) (hc : Caps n caps) (N : Int) (hfit : ∀ l : List Int, Box n caps l → ∀ A, PS A → ∃ A', PS A' ∧ plan_Fair_1 F l N A = some (fit l, A')) (x0 : List Int) (h0 : x0.length = n) : ∀ (k k' i : Nat) (left : Bool) (A : List SArc) (x : List Int) (act : List Bool) (trial : List Int), i + k' = n → k' < k → PS A → Box n caps x → act.length = n → trial.length = n →
  ∃ A' tr, PS A' ∧ tr.length = n ∧ fair_division_single_f0_p31_l59 F caps N x0 k left (i : Int) A x act trial = some ((sg caps fit k' i left x act).1, A', (sg caps fit k' i left x act).2.1, (sg caps fit k' i left x act).2.2, tr)
 | 0, k', i, left, A, x, act, trial, h1, h2, _, _, _, _ => by omega
 | k + 1, 0, i, left, A, x, act, trial, h1, h2, hA, hx, ha, ht => by
  simp only [fair_division_single_f0_p31_l59, fair_division_single_f0_p31_b59]
  rw [decide_eq_false (by omega), cond_false]
  exact ⟨A, trial, hA, ht, rfl⟩
 | k + 1, k' + 1, i, left, A, x, act, trial, h1, h2, hA, hx, ha, ht => by
  have hcl := hc.len
  have h64 := hc.n64
  have hxl := hx.len
  have hi : i < n := by omega
  have hci := hc.bd i hi
  have hxi := hx.bd i hi
  simp only [fair_division_single_f0_p31_l59, fair_division_single_f0_p31_b59, fair_division_single_f0_p31_p66, fair_division_single_f0_p31_p72]
  rw [decide_eq_true (by omega), cond_true, guard_pos (by omega), Int.toNat_natCast, wsucc i (by omega)]
  have hcp : copyL trial 0 trial.length x = x := copy_all trial x (by omega)
  rw [hcp]
  rw [sg]
  cases hact : act.getD i false with
  | false =>
   rw [Bool.not_false, cond_true, cond_false]
   exact single_l hF hc N hfit x0 h0 k k' (i + 1) left A x act trial (by omega) (by omega) hA hx ha ht
  | true =>
   rw [Bool.not_true, cond_false, cond_true, guard_pos (by omega), guard_pos (by omega)]
   by_cases hlt : x.getD i 0 < caps.getD i 0
   ·have hb := set_box hx i hlt
    obtain ⟨A1, hA1, e1⟩ := hfit _ hb A hA
    rw [decide_eq_true hlt, cond_true, guard_pos (by omega), guard_pos (by omega), Go.IntWalk.i64_in (x.getD i 0 + 1) (by omega), e1, Option.bind_some, Bool.true_and]
    simp only
    cases hf : fit (x.set i (x.getD i 0 + 1)) with
    | true =>
     rw [cond_true, cond_true, guard_pos (by omega), guard_pos (by omega)]
     exact single_l hF hc N hfit x0 h0 k k' (i + 1) true A1 _ act _ (by omega) (by omega) hA1 hb ha (by simp [hxl])
    | false =>
     rw [cond_false, cond_false, guard_pos (by omega)]
     exact single_l hF hc N hfit x0 h0 k k' (i + 1) left A1 x _ _ (by omega) (by omega) hA1 hx (by simpa using ha) (by simp [hxl])
   ·rw [decide_eq_false hlt, cond_false, guard_pos (by omega), Bool.false_and, cond_false]
    exact single_l hF hc N hfit x0 h0 k k' (i + 1) left A x _ _ (by omega) (by omega) hA hx (by simpa using ha) ht
theorem single_eq (hF : 100 ≤ F) (hc : Caps n caps) (N : Int) (hfit : ∀ l : List Int, Box n caps l → ∀ A, PS A → ∃ A', PS A' ∧ plan_Fair_1 F l N A = some (fit l, A')) {x : List Int} (hx : Box n caps x) {act : List Bool} (ha : act.length = n) {trial : List Int} (ht : trial.length = n) {A : List SArc} (hA : PS A) :
  ∃ A' tr, PS A' ∧ tr.length = n ∧ fair_division_single_f0_p31 F caps N A x act trial = some ((sg caps fit n 0 false x act).1, A', (sg caps fit n 0 false x act).2.1, (sg caps fit n 0 false x act).2.2, tr) := by
 have := hc.n64
 have := single_l hF hc N hfit x hx.len F n 0 false A x act trial (by omega) (by omega) hA hx ha ht
 unfold fair_division_single_f0_p31
 simpa only [Int.natCast_zero] using this
theorem turns_l (hF : 2000000000000 ≤ F) (hc : Caps n caps) (N : Int) (hfit : ∀ l : List Int, Box n caps l → ∀ A, PS A → ∃ A', PS A' ∧ plan_Fair_1 F l N A = some (fit l, A')) (I : Nat → List Int → List Bool → Prop) (Q : List Int → Prop)
  (hI : ∀ t x act, I t x act → Box n caps x ∧ act.length = n)
  (hstep : ∀ t x act d, t < n → I t x act → Far n caps x act fit d → (((sg caps fit n 0 false (rs caps x act d) act).1 = false → Q (sg caps fit n 0 false (rs caps x act d) act).2.1) ∧
   ((sg caps fit n 0 false (rs caps x act d) act).1 = true → I (t + 1) (sg caps fit n 0 false (rs caps x act d) act).2.1 (sg caps fit n 0 false (rs caps x act d) act).2.2)))
  (hend : ∀ x act, I n x act → Q x) : ∀ (k t : Nat) (A : List SArc) (x : List Int) (act : List Bool) (trial : List Int), t ≤ n → n < k + t → PS A → trial.length = n → I t x act →
  ∃ r A', fair_Fill_f1_31_l33 F caps N k (t : Int) A x act trial = some (r, 0, A') ∧ Q r
 | 0, t, A, x, act, trial, h1, h2, _, _, _ => by omega
 | k + 1, t, A, x, act, trial, h1, h2, hA, ht, hi => by
  have hcl := hc.len
  have h64 := hc.n64
  obtain ⟨hx, ha⟩ := hI t x act hi
  simp only [fair_Fill_f1_31_l33, fair_Fill_f1_31_b33, fair_Fill_f1_31_p15]
  by_cases htn : t < n
  ·obtain ⟨d, A1, hA1, e1, hfar⟩ := together_eq hF hc N hfit hx ha ht hA
   have hl := (rs_len caps x act d).trans hx.len
   obtain ⟨A2, tr, hA2, e2, e3⟩ := single_eq (F := F) (by omega) hc N hfit (rs_box hx act d hfar.1) ha hl hA1
   obtain ⟨s1, s2⟩ := hstep t x act d htn hi hfar
   rw [decide_eq_true (by omega), cond_true, e1, Option.bind_some]
   simp only
   rw [e3, Option.bind_some]
   simp only
   cases hlft : (sg caps fit n 0 false (rs caps x act d) act).1 with
   | false => exact ⟨_, _, rfl, s1 hlft⟩
   | true =>
    rw [Bool.not_true, cond_false, wsucc t (by omega)]
    exact turns_l hF hc N hfit I Q hI hstep hend k (t + 1) _ _ _ tr (by omega) (by omega) hA2 e2 (s2 hlft)
  ·rw [decide_eq_false (by omega), cond_false]
   have : t = n := by omega
   subst this
   exact ⟨x, A, rfl, hend x act hi⟩
theorem active_l (hF : 100 ≤ F) (hc : Caps n caps) (N : Int) (c : Bool × List SArc) : ∀ (k i : Nat) (o : List Bool), i ≤ n → n < k + i → o.length = n → (∀ j, j < i → o.getD j false = true) → fair_Fill_f1_31_l47 F caps N c k (i : Int) o = fair_Fill_f1_31_p40 F caps N c (List.replicate n true)
 | 0, i, o, h1, h2, _, _ => by omega
 | k + 1, i, o, h1, h2, ho, hg => by
  have hcl := hc.len
  have h64 := hc.n64
  simp only [fair_Fill_f1_31_l47, fair_Fill_f1_31_b47, List.length_replicate, hcl, Int.toNat_natCast]
  by_cases hi : i < n
  ·rw [decide_eq_true (by omega), cond_true, guard_pos (by omega), wsucc i (by omega)]
   refine active_l hF hc N c k (i + 1) _ (by omega) (by omega) (by simpa using ho) (fun j hj => ?_)
   rw [getD_set]
   by_cases hji : j = i
   ·subst hji; rw [if_pos ⟨rfl, by omega⟩]
   ·rw [if_neg (fun hh => hji hh.1)]; exact hg j (by omega)
  ·rw [decide_eq_false (by omega), cond_false]
   congr 1
   refine ext_getD false (by simp [ho]) (fun j hj => ?_)
   rw [hg j (by omega), List.getD_eq_getElem?_getD, List.getElem?_replicate, if_pos (by omega)]; rfl
theorem fill_eq (hF : 2000000000000 ≤ F) (hc : Caps n caps) (N : Int) (hfit : ∀ l : List Int, Box n caps l → ∀ A, PS A → ∃ A', PS A' ∧ plan_Fair_1 F l N A = some (fit l, A')) (I : Nat → List Int → List Bool → Prop) (Q : List Int → Prop)
  (hI : ∀ t x act, I t x act → Box n caps x ∧ act.length = n)
  (hstep : ∀ t x act d, t < n → I t x act → Far n caps x act fit d → (((sg caps fit n 0 false (rs caps x act d) act).1 = false → Q (sg caps fit n 0 false (rs caps x act d) act).2.1) ∧
   ((sg caps fit n 0 false (rs caps x act d) act).1 = true → I (t + 1) (sg caps fit n 0 false (rs caps x act d) act).2.1 (sg caps fit n 0 false (rs caps x act d) act).2.2)))
  (hend : ∀ x act, I n x act → Q x) (h0 : fit (List.replicate n 0) = true → I 0 (List.replicate n 0) (List.replicate n true)) {A : List SArc} (hA : PS A) :
  (fit (List.replicate n 0) = false ∧ ∃ A', fair_Fill_f1_31 F caps N A = some (List.replicate n 0, 0, A')) ∨ (fit (List.replicate n 0) = true ∧ ∃ r A', fair_Fill_f1_31 F caps N A = some (r, 0, A') ∧ Q r) := by
 have hcl := hc.len
 have h64 := hc.n64
 have hb0 : Box n caps (List.replicate n 0) := ⟨by simp, fun i hi => by
  have := hc.bd i hi
  rw [List.getD_eq_getElem?_getD, List.getElem?_replicate, if_pos hi]
  show (0 : Int) ≤ 0 ∧ 0 ≤ caps.getD i 0
  omega⟩
 obtain ⟨A1, hA1, e1⟩ := hfit _ hb0 A hA
 unfold fair_Fill_f1_31
 rw [check_ok F (by omega) hc, Option.bind_some, show (!decide ((0 : Int) = 0)) = false from rfl, cond_false, guard_pos (by omega), guard_pos (by omega), guard_pos (by omega), hcl, Int.toNat_natCast, e1, Option.bind_some]
 simp only
 cases hf : fit (List.replicate n 0) with
 | false => exact .inl ⟨rfl, A1, rfl⟩
 | true =>
  refine .inr ⟨rfl, ?_⟩
  rw [Bool.not_true, cond_false]
  have h1 := active_l (F := F) (by omega) hc N (true, A1) F 0 (List.replicate n false) (by omega) (by omega) (by simp) (fun j hj => by omega)
  simp only [Int.natCast_zero] at h1
  rw [h1]
  unfold fair_Fill_f1_31_p40
  rw [hcl, Int.toNat_natCast]
  have := turns_l hF hc N hfit I Q hI hstep hend F 0 A1 (List.replicate n 0) (List.replicate n true) (List.replicate n 0) (by omega) (by omega) hA1 (by simp) (h0 hf)
  simpa only [Int.natCast_zero] using this
end
end Go.Proofs.Ytfefnffdocmlmaa.M.Fillf1_31
