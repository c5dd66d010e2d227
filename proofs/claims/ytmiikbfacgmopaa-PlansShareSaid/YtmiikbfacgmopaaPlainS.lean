/- Plain laws: sums, levels, the share of a total; the turns of a division whose sum is limited; Share. -/
import Derived.Test.YtmiikbfacgmopaaPlainK
namespace Go.Proofs.Ytmiikbfacgmopaa.M
open Go Go.Proofs.Ytmiikbfacgmopaa.E Go.Proofs.Ytmiikbfacgmopaa.W
set_option linter.unusedVariables false
set_option linter.unusedSimpArgs false
def sl : List Int → Int
 | [] => 0
 | a :: l => a + sl l
theorem sl_set : ∀ (l : List Int) (i : Nat) (v : Int), i < l.length → sl (l.set i v) = sl l - l.getD i 0 + v
 | [], i, v, h => absurd h (by simp)
 | a :: l, 0, v, h => by simp [sl]; omega
 | a :: l, i + 1, v, h => by
  have := sl_set l i v (by simpa using h)
  simp only [List.set_cons_succ, sl, List.getD_cons_succ]
  omega
theorem sl_le : ∀ (a b : List Int), a.length = b.length → (∀ i, i < a.length → a.getD i 0 ≤ b.getD i 0) → sl a ≤ sl b ∧ (sl b ≤ sl a → a = b)
 | [], [], _, _ => ⟨Int.le_refl _, fun _ => rfl⟩
 | x :: a, y :: b, hl, h => by
  have h0 := h 0 (by simp)
  obtain ⟨h1, h2⟩ := sl_le a b (by simpa using hl) (fun i hi => by simpa using h (i + 1) (by simpa using hi))
  simp only [List.getD_cons_zero] at h0
  simp only [sl]
  refine ⟨by omega, fun hh => ?_⟩
  rw [h2 (by omega), show x = y by omega]
 | [], _ :: _, hl, _ => by simp at hl
 | _ :: _, [], hl, _ => by simp at hl
theorem sl_const_le : ∀ (l : List Int) (c : Int), (∀ i, i < l.length → 0 ≤ l.getD i 0 ∧ l.getD i 0 ≤ c) → 0 ≤ sl l ∧ sl l ≤ c * l.length
 | [], c, _ => by simp [sl]
 | a :: l, c, h => by
  have h0 := h 0 (by simp)
  obtain ⟨h1, h2⟩ := sl_const_le l c (fun i hi => by simpa using h (i + 1) (by simpa using hi))
  simp only [List.getD_cons_zero] at h0
  simp only [sl, List.length_cons]
  have : c * ((l.length + 1 : Nat) : Int) = c * (l.length : Int) + c := by rw [Int.natCast_add, Int.mul_add]; omega
  omega
def lv (caps : List Int) (m : Int) : Int := sl (caps.map (mn m))
def bump : List Int → Int → Int → List Int
 | [], _, _ => []
 | c :: cs, m, r => if 0 < r ∧ m < c then (mn m c + 1) :: bump cs m (r - 1) else mn m c :: bump cs m r
theorem lv_mono (m k : Int) (h : m ≤ k) : ∀ caps : List Int, lv caps m ≤ lv caps k
 | [] => Int.le_refl _
 | c :: cs => by
  have := lv_mono m k h cs
  have h1 : mn m c ≤ mn k c := by unfold mn; split <;> split <;> omega
  simp only [lv, List.map_cons, sl] at *
  omega
theorem lv_all (m : Int) : ∀ caps : List Int, (∀ c ∈ caps, c ≤ m) → lv caps m = sl caps ∧ ∀ r, bump caps m r = caps
 | [], _ => ⟨rfl, fun _ => rfl⟩
 | c :: cs, h => by
  obtain ⟨h1, h2⟩ := lv_all m cs (fun x hx => h x (List.mem_cons_of_mem _ hx))
  have hc := h c (List.mem_cons_self ..)
  have h3 : mn m c = c := by unfold mn; split <;> omega
  refine ⟨?_, fun r => ?_⟩
  ·simp only [lv, List.map_cons, sl] at *; omega
  ·rw [bump, if_neg (by omega), h2, h3]
theorem lv_le (m : Int) : ∀ caps : List Int, lv caps m ≤ sl caps
 | [] => Int.le_refl _
 | c :: cs => by
  have := lv_le m cs
  have h1 := mn_le m c
  simp only [lv, List.map_cons, sl] at *
  omega
theorem lv_zero : ∀ caps : List Int, (∀ c ∈ caps, 0 ≤ c) → lv caps 0 = 0
 | [], _ => rfl
 | c :: cs, h => by
  have := lv_zero cs (fun x hx => h x (List.mem_cons_of_mem _ hx))
  have hc := h c (List.mem_cons_self ..)
  have h1 : mn 0 c = 0 := by unfold mn; split <;> omega
  simp only [lv, List.map_cons, sl] at *
  omega
theorem sl_bump (m : Int) : ∀ (caps : List Int) (r : Int), 0 ≤ r → r ≤ lv caps (m + 1) - lv caps m → sl (bump caps m r) = lv caps m + r
 | [], r, h0, h1 => by simp only [lv, List.map_nil, sl] at h1; simp only [bump, lv, List.map_nil, sl]; omega
 | c :: cs, r, h0, h1 => by
  have hstep : lv (c :: cs) m = mn m c + lv cs m := rfl
  have hstep' : lv (c :: cs) (m + 1) = mn (m + 1) c + lv cs (m + 1) := rfl
  have h2 : mn (m + 1) c = mn m c + if m < c then 1 else 0 := by unfold mn; split <;> split <;> split <;> omega
  have hmm := lv_mono m (m + 1) (by omega) cs
  rw [bump]
  by_cases hb : 0 < r ∧ m < c
  ·rw [if_pos hb, sl, sl_bump m cs (r - 1) (by omega) (by rw [if_pos hb.2] at h2; omega)]
   omega
  ·rw [if_neg hb, sl, sl_bump m cs r h0 (by split at h2 <;> omega)]
   omega
theorem bump_len (m : Int) : ∀ (caps : List Int) (r : Int), (bump caps m r).length = caps.length
 | [], _ => rfl
 | c :: cs, r => by rw [bump]; split <;> simp [bump_len m cs]
def Sh (caps : List Int) (total : Int) (l : List Int) : Prop :=
 (sl caps ≤ total ∧ l = caps) ∨ (∃ m, 0 ≤ m ∧ lv caps m ≤ total ∧ total < lv caps (m + 1) ∧ l = bump caps m (total - lv caps m))
theorem Sh.unique {caps : List Int} {total : Int} {l l' : List Int} (h : Sh caps total l) (h' : Sh caps total l') : l = l' := by
 rcases h with ⟨h1, rfl⟩ | ⟨m, h1, h2, h3, rfl⟩ <;> rcases h' with ⟨k1, rfl⟩ | ⟨k, k1, k2, k3, rfl⟩
 ·rfl
 ·have := lv_le (k + 1) l; omega
 ·have := lv_le (m + 1) l'; omega
 ·have : m = k := by
   by_cases h4 : m < k
   ·have := lv_mono (m + 1) k (by omega) caps; omega
   ·by_cases h5 : k < m
    ·have := lv_mono (k + 1) m (by omega) caps; omega
    ·omega
  rw [this]
theorem sg_keep (caps : List Int) (fit : List Int → Bool) {n : Nat} : ∀ (k i : Nat) (left : Bool) (x : List Int) (act : List Bool), Box n caps x → act.length = n → Box n caps (sg caps fit k i left x act).2.1 ∧ (sg caps fit k i left x act).2.2.length = n
 | 0, i, left, x, act, hx, ha => ⟨hx, ha⟩
 | k + 1, i, left, x, act, hx, ha => by
  rw [sg]
  cases act.getD i false with
  | false => exact sg_keep caps fit k (i + 1) left x act hx ha
  | true =>
   rw [cond_true]
   by_cases hlt : x.getD i 0 < caps.getD i 0
   ·rw [decide_eq_true hlt, Bool.true_and]
    cases fit (x.set i (x.getD i 0 + 1)) with
    | true => exact sg_keep caps fit k (i + 1) true _ act (set_box hx i hlt) ha
    | false => exact sg_keep caps fit k (i + 1) left x _ hx (by simpa using ha)
   ·rw [decide_eq_false hlt, Bool.false_and]
    exact sg_keep caps fit k (i + 1) left x _ hx (by simpa using ha)
theorem take_succ' {x : List Int} {i : Nat} (h : i < x.length) : x.take (i + 1) = x.take i ++ [x.getD i 0] := by
 rw [List.take_add_one, List.getElem?_eq_getElem h, getD_get h]; rfl
theorem sg_bump {n : Nat} {caps : List Int} (hcl : caps.length = n) (total d : Int) (hd : 0 ≤ d) (fit : List Int → Bool) (hf : ∀ l : List Int, fit l = decide (sl l ≤ total)) : ∀ (k i : Nat) (left : Bool) (x : List Int) (act : List Bool), i + k = n → x.length = n → sl x ≤ total →
  (∀ j, i ≤ j → j < n → act.getD j false = true) → (∀ j, i ≤ j → j < n → x.getD j 0 = mn d (caps.getD j 0)) → (sg caps fit k i left x act).2.1 = x.take i ++ bump (caps.drop i) d (total - sl x)
 | 0, i, left, x, act, h1, hx, hs, ha, hg => by
  rw [sg, List.drop_eq_nil_of_le (by omega), List.take_of_length_le (by omega), bump, List.append_nil]
 | k + 1, i, left, x, act, h1, hx, hs, ha, hg => by
  have hi : i < n := by omega
  have hdrop : caps.drop i = caps.getD i 0 :: caps.drop (i + 1) := by rw [List.drop_eq_getElem_cons (by omega), getD_get (by omega)]
  have hgi := hg i (Nat.le_refl _) hi
  have hm := mn_le d (caps.getD i 0)
  have hlt : (x.getD i 0 < caps.getD i 0) ↔ d < caps.getD i 0 := by rw [hgi]; unfold mn; split <;> omega
  have hset := sl_set x i (x.getD i 0 + 1) (by omega)
  have hfit : fit (x.set i (x.getD i 0 + 1)) = decide (0 < total - sl x) := by rw [hf, hset]; exact decide_eq_decide.2 (by omega)
  rw [sg, ha i (Nat.le_refl _) hi, cond_true, hdrop, bump, hfit]
  by_cases hb : 0 < total - sl x ∧ d < caps.getD i 0
  ·rw [if_pos hb, decide_eq_true (hlt.2 hb.2), decide_eq_true hb.1, Bool.and_self, cond_true, sg_bump hcl total d hd fit hf k (i + 1) true _ act (by omega) (by simpa using hx) (by omega) (fun j h2 h3 => ha j (by omega) h3) (fun j h2 h3 => by
    rw [getD_set, if_neg (fun hh => by omega)]; exact hg j (by omega) h3)]
   rw [take_succ' (by simp; omega), List.take_set_of_le (Nat.le_refl _), getD_set, if_pos ⟨rfl, by omega⟩, hset, hgi, List.append_assoc]
   simp only [List.singleton_append]
   rw [show total - (sl x - mn d (caps.getD i 0) + (mn d (caps.getD i 0) + 1)) = total - sl x - 1 by omega]
  ·have hfalse : (decide (x.getD i 0 < caps.getD i 0) && decide (0 < total - sl x)) = false := by
    rw [Bool.and_eq_false_iff]
    by_cases h2 : d < caps.getD i 0
    ·exact .inr (decide_eq_false (fun h3 => hb ⟨h3, h2⟩))
    ·exact .inl (decide_eq_false (fun h3 => h2 (hlt.1 h3)))
   rw [if_neg hb, hfalse, cond_false, sg_bump hcl total d hd fit hf k (i + 1) left x _ (by omega) hx hs (fun j h2 h3 => by
    rw [getD_set, if_neg (fun hh => by omega)]; exact ha j (by omega) h3) (fun j h2 h3 => hg j (by omega) h3)]
   rw [take_succ' (by omega), hgi, List.append_assoc]
   rfl
theorem sg_stay {n : Nat} {caps : List Int} (fit : List Int → Bool) (x : List Int) (h : ∀ i, i < n → x.getD i 0 < caps.getD i 0 → fit (x.set i (x.getD i 0 + 1)) = false) : ∀ (k i : Nat) (left : Bool) (act : List Bool), i + k = n → (sg caps fit k i left x act).1 = left ∧ (sg caps fit k i left x act).2.1 = x
 | 0, i, left, act, _ => ⟨rfl, rfl⟩
 | k + 1, i, left, act, h1 => by
  have hb : (decide (x.getD i 0 < caps.getD i 0) && fit (x.set i (x.getD i 0 + 1))) = false := by
   by_cases hlt : x.getD i 0 < caps.getD i 0
   ·rw [h i (by omega) hlt, Bool.and_false]
   ·rw [decide_eq_false hlt, Bool.false_and]
  rw [sg, hb]
  cases act.getD i false with
  | false => exact sg_stay fit x h k (i + 1) left act (by omega)
  | true => exact sg_stay fit x h k (i + 1) left _ (by omega)
def ShI (n : Nat) (caps : List Int) (total : Int) : Nat → List Int → List Bool → Prop
 | 0, x, act => x = List.replicate n 0 ∧ act = List.replicate n true
 | _ + 1, x, act => Box n caps x ∧ act.length = n ∧ Sh caps total x ∧ (x = caps ∨ total ≤ sl x)
theorem box_zero {n : Nat} {caps : List Int} (hc : Caps n caps) : Box n caps (List.replicate n 0) := ⟨by simp, fun i hi => by
 have := hc.bd i hi
 rw [List.getD_eq_getElem?_getD, List.getElem?_replicate, if_pos hi]
 show (0 : Int) ≤ 0 ∧ 0 ≤ caps.getD i 0
 omega⟩
theorem caps_mem {n : Nat} {caps : List Int} (hc : Caps n caps) : ∀ c ∈ caps, 0 ≤ c ∧ c ≤ 1099511627776 := by
 intro c h
 obtain ⟨i, hi, rfl⟩ := List.getElem_of_mem h
 have := hc.bd i (by rw [← hc.len]; exact hi)
 rwa [getD_get hi] at this
theorem sh_step {n : Nat} {caps : List Int} (hc : Caps n caps) (total : Int) (h0 : 0 ≤ total) (fit : List Int → Bool) (hf : ∀ l : List Int, fit l = decide (sl l ≤ total)) (t : Nat) (x : List Int) (act : List Bool) (d : Int) (htn : t < n) (hI : ShI n caps total t x act) (hfar : Far n caps x act fit d) :
  ((sg caps fit n 0 false (rs caps x act d) act).1 = false → Sh caps total (sg caps fit n 0 false (rs caps x act d) act).2.1) ∧
   ((sg caps fit n 0 false (rs caps x act d) act).1 = true → ShI n caps total (t + 1) (sg caps fit n 0 false (rs caps x act d) act).2.1 (sg caps fit n 0 false (rs caps x act d) act).2.2) := by
 have hcl := hc.len
 obtain ⟨f1, f2, f3, f4⟩ := hfar
 cases t with
 | zero =>
  obtain ⟨rfl, rfl⟩ := hI
  have hb0 := box_zero hc
  have hget0 : ∀ i, (List.replicate n (0 : Int)).getD i 0 = 0 := fun i => getD_rep n i 0
  have hact : ∀ i, i < n → (List.replicate n true).getD i false = true := fun i hi => by
   rw [List.getD_eq_getElem?_getD, List.getElem?_replicate, if_pos hi]; rfl
  have hrs : ∀ q : Int, 0 ≤ q → rs caps (List.replicate n 0) (List.replicate n true) q = caps.map (mn q) := by
   intro q hq
   refine ext_getD 0 (by rw [rs_len]; simp [hcl]) (fun i hi => ?_)
   rw [rs_len, List.length_replicate] at hi
   rw [rs_get _ _ _ _ _ (by simpa using hi), if_pos (hact i hi), hget0, List.getD_eq_getElem?_getD (l := caps.map _), List.getElem?_map, List.getElem?_eq_getElem (by omega), getD_get (by omega), Int.zero_add]
   rfl
  have hlv : ∀ q : Int, 0 ≤ q → fit (rs caps (List.replicate n 0) (List.replicate n true) q) = decide (lv caps q ≤ total) := fun q hq => by rw [hf, hrs q hq]; rfl
  have hfits : lv caps d ≤ total := by
   rcases f3 with h | h
   ·subst h; rw [lv_zero caps (fun c hm => (caps_mem hc c hm).1)]; exact h0
   ·rw [hlv d f1] at h; exact of_decide_eq_true h
  have hx : (sg caps fit n 0 false (rs caps (List.replicate n 0) (List.replicate n true) d) (List.replicate n true)).2.1 = bump caps d (total - lv caps d) := by
   rw [sg_bump hcl total d f1 fit hf n 0 false _ _ (by omega) (by rw [rs_len]; simp) (by rw [hrs d f1]; exact hfits) (fun j _ hj => hact j hj) (fun j _ hj => by
    rw [rs_get _ _ _ _ _ (by simpa using hj), if_pos (hact j hj), hget0, Int.zero_add]), hrs d f1]
   simp [lv]
  have key : Sh caps total (bump caps d (total - lv caps d)) ∧ (bump caps d (total - lv caps d) = caps ∨ total ≤ sl (bump caps d (total - lv caps d))) := by
   rcases f4 with h | h
   ·have hall : ∀ c ∈ caps, c ≤ d := by
     intro c hm
     obtain ⟨i, hi, rfl⟩ := List.getElem_of_mem hm
     have := h i (by omega) (hact i (by omega))
     rw [hget0, getD_get hi] at this
     omega
    obtain ⟨e1, e2⟩ := lv_all d caps hall
    rw [e2]
    exact ⟨.inl ⟨by omega, rfl⟩, .inl rfl⟩
   ·rw [hlv (d + 1) (by omega)] at h
    have h := of_decide_eq_false h
    exact ⟨.inr ⟨d, f1, hfits, by omega, rfl⟩, .inr (by rw [sl_bump d caps _ (by omega) (by omega)]; omega)⟩
  rw [hx]
  refine ⟨fun _ => key.1, fun _ => ?_⟩
  obtain ⟨k1, k2⟩ := sg_keep caps fit n 0 false _ (List.replicate n true) (rs_box hb0 (List.replicate n true) d f1) (by simp)
  rw [hx] at k1
  exact ⟨k1, k2, key⟩
 | succ t =>
  obtain ⟨hb, ha, hsh, hfull⟩ := hI
  have hxl := hb.len
  have hrs : rs caps x act d = x := by
   refine (sl_le x (rs caps x act d) (rs_len ..).symm (fun i hi => ?_)).2 ?_ |>.symm
   ·rw [rs_get _ _ _ _ _ hi]
    have := hb.bd i (by omega)
    unfold mn
    split
    ·split <;> omega
    ·exact Int.le_refl _
   ·rcases hfull with rfl | hfull
    ·refine (sl_le _ _ (rs_len ..) (fun i hi => ?_)).1
     rw [rs_len] at hi
     rw [rs_get _ _ _ _ _ hi]
     split
     ·exact (mn_le _ _).2.1
     ·exact Int.le_refl _
    ·rcases f3 with h | h
     ·rw [h, rs_zero hb]; exact Int.le_refl _
     ·rw [hf] at h
      have := of_decide_eq_true h
      omega
  rw [hrs]
  obtain ⟨s1, s2⟩ := sg_stay (n := n) (caps := caps) fit x (fun i hi hlt => by
   rw [hf, sl_set x i _ (by omega)]
   rcases hfull with rfl | hfull
   ·omega
   ·exact decide_eq_false (by omega)) n 0 false act (by omega)
  rw [s1, s2]
  exact ⟨fun _ => hsh, fun h => by cases h⟩
theorem fbelow_l (F : Nat) (hF : 100 ≤ F) {n : Nat} {caps : List Int} (hc : Caps n caps) (m : Int) (hm : 0 ≤ m ∧ m ≤ 1099511627776) : ∀ (k i : Nat) (sum : Int), i ≤ n → n < k + i → 0 ≤ sum → sum ≤ 1099511627776 * i → fair_below_l13 F m caps k sum (i : Int) = some (sum + lv (caps.drop i) m)
 | 0, i, sum, h1, h2, _, _ => by omega
 | k + 1, i, sum, h1, h2, h3, h4 => by
  have hcl := hc.len
  have h64 := hc.n64
  simp only [fair_below_l13, fair_below_b13, fair_below_p2]
  by_cases hi : i < n
  ·have hci := hc.bd i hi
   have hmn : 0 ≤ mn m (caps.getD i 0) ∧ mn m (caps.getD i 0) ≤ 1099511627776 := by unfold mn; split <;> omega
   rw [decide_eq_true (by omega), cond_true, guard_pos (by omega), Int.toNat_natCast, least_eq F hF, Option.bind_some, wsucc i (by omega), Go.IntWalk.i64_in _ (by omega), fbelow_l F hF hc m hm k (i + 1) _ (by omega) (by omega) (by omega) (by omega),
    List.drop_eq_getElem_cons (by omega : i < caps.length), getD_get (by omega)]
   simp only [lv, List.map_cons, sl]
   congr 1; omega
  ·rw [decide_eq_false (by omega), cond_false, List.drop_eq_nil_of_le (by omega)]
   simp [lv, sl]
theorem fbelow_eq (F : Nat) (hF : 100 ≤ F) {n : Nat} {caps : List Int} (hc : Caps n caps) (m : Int) (hm : 0 ≤ m ∧ m ≤ 1099511627776) : fair_below F m caps = some (lv caps m) := by
 have := hc.n64
 have := fbelow_l F hF hc m hm F 0 0 (by omega) (by omega) (Int.le_refl _) (by omega)
 unfold fair_below
 simpa only [Int.natCast_zero, List.drop_zero, Int.zero_add] using this
theorem rest_l (F : Nat) (hF : 100 ≤ F) {n : Nat} {caps : List Int} (hc : Caps n caps) (m : Int) (hm : 0 ≤ m ∧ m ≤ 1099511627776) : ∀ (k i : Nat) (rest : Int) (o : List Int), i ≤ n → n < k + i → -1000000000000000000 ≤ rest → rest ≤ 1000000000000000000 → o.length = n →
  fair_Share_l43 F caps m k rest (i : Int) o = some (o.take i ++ bump (caps.drop i) m rest, 0)
 | 0, i, rest, o, h1, h2, _, _, _ => by omega
 | k + 1, i, rest, o, h1, h2, h3, h4, ho => by
  have hcl := hc.len
  have h64 := hc.n64
  simp only [fair_Share_l43, fair_Share_b43, fair_Share_p15, fair_Share_p47]
  by_cases hi : i < n
  ·have hci := hc.bd i hi
   have hmn : 0 ≤ mn m (caps.getD i 0) ∧ mn m (caps.getD i 0) ≤ 1099511627776 := by unfold mn; split <;> omega
   have hdrop : caps.drop i = caps.getD i 0 :: caps.drop (i + 1) := by rw [List.drop_eq_getElem_cons (by omega), getD_get (by omega)]
   have hg : (o.set i (mn m (caps.getD i 0))).getD i 0 = mn m (caps.getD i 0) := by rw [getD_set, if_pos ⟨rfl, by omega⟩]
   have htk : ∀ v : Int, (o.set i v).take (i + 1) = o.take i ++ [v] := fun v => by
    rw [take_succ' (by simp; omega), List.take_set_of_le (Nat.le_refl _), getD_set, if_pos ⟨rfl, by omega⟩]
   have hs2 : (o.set i (mn m (caps.getD i 0))).set i (mn m (caps.getD i 0) + 1) = o.set i (mn m (caps.getD i 0) + 1) := List.set_set ..
   rw [decide_eq_true (by omega), cond_true, guard_pos (by omega), Int.toNat_natCast, least_eq F hF, Option.bind_some, guard_pos (by omega), wsucc i (by omega), hdrop, bump]
   by_cases hr : 0 < rest
   ·rw [decide_eq_true hr, cond_true]
    by_cases hmc : m < caps.getD i 0
    ·rw [decide_eq_true hmc, cond_true, guard_pos (by simp; omega), guard_pos (by simp; omega), hg, Go.IntWalk.i64_in (mn m (caps.getD i 0) + 1) (by omega), Go.IntWalk.i64_in (rest - 1) (by omega), hs2,
      rest_l F hF hc m hm k (i + 1) _ _ (by omega) (by omega) (by omega) (by omega) (by simpa using ho), htk, if_pos ⟨hr, hmc⟩, List.append_assoc]
     rfl
    ·rw [decide_eq_false hmc, cond_false, rest_l F hF hc m hm k (i + 1) _ _ (by omega) (by omega) h3 h4 (by simpa using ho), htk, if_neg (fun hh => hmc hh.2), List.append_assoc]
     rfl
   ·rw [decide_eq_false hr, cond_false, rest_l F hF hc m hm k (i + 1) _ _ (by omega) (by omega) h3 h4 (by simpa using ho), htk, if_neg (fun hh => hr hh.1), List.append_assoc]
    rfl
  ·rw [decide_eq_false (by omega), cond_false, List.drop_eq_nil_of_le (by omega), List.take_of_length_le (by omega), bump, List.append_nil]
theorem lv_bd {n : Nat} {caps : List Int} (hc : Caps n caps) (m : Int) (hm : 0 ≤ m) : 0 ≤ lv caps m ∧ lv caps m ≤ 70368744177664 := by
 have hcl := hc.len
 have h64 := hc.n64
 obtain ⟨h1, h2⟩ := sl_const_le (caps.map (mn m)) 1099511627776 (fun i hi => by
  simp at hi
  have := hc.bd i (by omega)
  rw [List.getD_eq_getElem?_getD, List.getElem?_map, List.getElem?_eq_getElem hi]
  rw [getD_get hi] at this
  show 0 ≤ mn m caps[i] ∧ mn m caps[i] ≤ 1099511627776
  unfold mn; split <;> omega)
 rw [List.length_map, hcl] at h2
 unfold lv
 omega
theorem level_l (F : Nat) (hF : 100 ≤ F) {n : Nat} {caps : List Int} (hc : Caps n caps) (total : Int) (ht : 0 ≤ total ∧ total ≤ 100000000000000000) : ∀ (k : Nat) (m bad : Int), 0 ≤ m → m < bad → bad ≤ 1099511627776 → bad - m ≤ k → 0 < k → lv caps m ≤ total → total < lv caps bad →
  ∃ l, fair_Share_l68 F total caps k m bad = some (l, 0) ∧ Sh caps total l
 | 0, m, bad, _, _, _, _, h0, _, _ => by omega
 | k + 1, m, bad, h1, h2, h3, h4, _, h5, h6 => by
  have hcl := hc.len
  have h64 := hc.n64
  simp only [fair_Share_l68, fair_Share_b68]
  rw [Go.IntWalk.i64_in (bad - m) (by omega)]
  by_cases hb : 1 < bad - m
  ·have hm : Int.tdiv (bad - m) 2 = (bad - m) / 2 := by rw [Int.tdiv_eq_ediv_of_nonneg (by omega)]
   rw [decide_eq_true hb, cond_true, hm, Go.IntWalk.i64_in ((bad - m) / 2) (by omega), Go.IntWalk.i64_in (m + (bad - m) / 2) (by omega), fbelow_eq F hF hc _ (by omega), Option.bind_some]
   by_cases hl : lv caps (m + (bad - m) / 2) ≤ total
   ·rw [decide_eq_true hl, cond_true]; exact level_l F hF hc total ht k _ bad (by omega) (by omega) h3 (by omega) (by omega) hl h6
   ·rw [decide_eq_false hl, cond_false]; exact level_l F hF hc total ht k m _ h1 (by omega) (by omega) (by omega) (by omega) h5 (by omega)
  ·have hbm : bad = m + 1 := by omega
   have hlb := lv_bd hc m h1
   rw [decide_eq_false hb, cond_false]
   unfold fair_Share_p56
   rw [fbelow_eq F hF hc m (by omega), Option.bind_some, guard_pos (by omega), hcl, Int.toNat_natCast, Go.IntWalk.i64_in (total - lv caps m) (by omega)]
   have := rest_l F hF hc m (by omega) F 0 (total - lv caps m) (List.replicate n 0) (by omega) (by omega) (by omega) (by omega) (by simp)
   simp only [Int.natCast_zero, List.take_zero, List.nil_append, List.drop_zero] at this
   rw [this]
   exact ⟨_, rfl, .inr ⟨m, h1, h5, by rw [← hbm]; exact h6, rfl⟩⟩
theorem share_eq (F : Nat) (hF : 2000000000000 ≤ F) {n : Nat} {caps : List Int} (hc : Caps n caps) (total : Int) (ht : 0 ≤ total ∧ total ≤ 100000000000000000) : ∃ l, fair_Share F total caps = some (l, 0) ∧ Sh caps total l := by
 have hcl := hc.len
 have h64 := hc.n64
 have hall : ∀ c ∈ caps, c ≤ 1099511627776 := fun c hm => (caps_mem hc c hm).2
 unfold fair_Share
 rw [decide_eq_false (by omega), cond_false, check_ok F (by omega) hc, Option.bind_some, show (!decide ((0 : Int) = 0)) = false from rfl, cond_false, fbelow_eq F (by omega) hc _ (by omega), Option.bind_some]
 by_cases hl : lv caps 1099511627776 ≤ total
 ·rw [decide_eq_true hl, cond_true]
  unfold slices_Clone_int_int
  rw [guard_pos (by simp; omega), Option.bind_some]
  refine ⟨caps, rfl, .inl ⟨?_, rfl⟩⟩
  rw [← (lv_all _ caps hall).1]; exact hl
 ·rw [decide_eq_false hl, cond_false]
  exact level_l F (by omega) hc total ht F 0 1099511627776 (Int.le_refl _) (by omega) (Int.le_refl _) (by omega) (by omega) (by rw [lv_zero caps (fun c hm => (caps_mem hc c hm).1)]; exact ht.1) (by omega)
theorem Sh.len {caps : List Int} {total : Int} {l : List Int} (h : Sh caps total l) : l.length = caps.length := by
 rcases h with ⟨_, rfl⟩ | ⟨m, _, _, _, rfl⟩
 ·rfl
 ·exact bump_len ..
end Go.Proofs.Ytmiikbfacgmopaa.M
