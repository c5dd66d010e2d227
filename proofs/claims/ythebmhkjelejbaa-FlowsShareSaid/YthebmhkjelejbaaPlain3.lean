/- The plain law of FlowsShare: a maximum flow carries a vector when its sum is at most the one arc's capacity. -/
import Derived.Test.YthebmhkjelejbaaPlainH
namespace Go.Proofs.Ythebmhkjelejbaa.M
open Go Go.Proofs.Ythebmhkjelejbaa.E Go.Proofs.Ythebmhkjelejbaa.W
set_option linter.unusedVariables false
set_option linter.unusedSimpArgs false

/-! ### The network of a vector -/
def arcs (i : Nat) : List Int → List SArc
  | [] => []
  | x :: l => SArc.mk 0 (3 + (i : Int)) x :: SArc.mk (3 + (i : Int)) 2 1073741824 :: arcs (i + 1) l
theorem arcs_len : ∀ (l : List Int) (i : Nat), (arcs i l).length = 2 * l.length
  | [], _ => rfl
  | x :: l, i => by simp only [arcs, List.length_cons, arcs_len l (i + 1)]; omega
theorem arcs_ok (n : SNet) (N : Nat) (hn : n.Nodes = (N : Int)) : ∀ (l : List Int) (i : Nat), i + l.length + 3 = N → (∀ j, j < l.length → 0 ≤ l.getD j 0 ∧ l.getD j 0 ≤ 1073741824) → ∀ a ∈ arcs i l, okArc n a
  | [], _, _, _, a, h => by simp [arcs] at h
  | x :: l, i, h1, h2, a, h => by
    have h0 := h2 0 (by simp)
    simp only [List.getD_cons_zero] at h0
    simp only [List.length_cons] at h1
    simp only [arcs, List.mem_cons] at h
    rcases h with rfl | rfl | h
    · unfold okArc; simp only; omega
    · unfold okArc; simp only; omega
    · exact arcs_ok n N hn l (i + 1) (by omega) (fun j hj => by simpa using h2 (j + 1) (by simpa using hj)) a h

/-! ### Cuts as sums over the list of arcs -/
def gX (X : Nat → Bool) (a : SArc) : Int := if X a.From.toNat = true ∧ X a.To.toNat = false then a.Cap else 0
theorem S_front (g : Nat → Int) : ∀ n : Nat, S g (n + 1) = g 0 + S (fun i => g (i + 1)) n
  | 0 => by simp [S]
  | n + 1 => by
    rw [S, S_front g n, S]; omega
theorem S_list (g : SArc → Int) : ∀ A : List SArc, S (fun i => g (A.getD i dSArc)) A.length = sl (A.map g)
  | [] => rfl
  | a :: A => by
    rw [List.length_cons, S_front]
    simp only [List.getD_cons_zero, List.getD_cons_succ, List.map_cons, sl]
    rw [S_list g A]
theorem cap_list (A : List SArc) (X : Nat → Bool) : cap A X = sl (A.map (gX X)) := S_list (gX X) A

theorem cut_lo (X : Nat → Bool) (h0 : X 0 = true) : ∀ (l : List Int) (i : Nat), (∀ j, j < l.length → 0 ≤ l.getD j 0 ∧ l.getD j 0 ≤ 1073741824) → 0 ≤ sl ((arcs i l).map (gX X)) ∧ (X 2 = false → sl l ≤ sl ((arcs i l).map (gX X)))
  | [], _, _ => ⟨Int.le_refl _, fun _ => Int.le_refl _⟩
  | x :: l, i, h => by
    have hx := h 0 (by simp)
    simp only [List.getD_cons_zero] at hx
    obtain ⟨h1, h2⟩ := cut_lo X h0 l (i + 1) (fun j hj => by simpa using h (j + 1) (by simpa using hj))
    have e3 : (3 + (i : Int)).toNat = 3 + i := by omega
    have g1 : gX X (SArc.mk 0 (3 + (i : Int)) x) = if X (3 + i) = false then x else 0 := by
      unfold gX
      simp only [e3]
      by_cases h3 : X (3 + i) = false
      · rw [if_pos ⟨h0, h3⟩, if_pos h3]
      · rw [if_neg (fun hh => h3 hh.2), if_neg h3]
    have g2 : gX X (SArc.mk (3 + (i : Int)) 2 1073741824) = if X (3 + i) = true ∧ X 2 = false then 1073741824 else 0 := by
      unfold gX
      simp only [e3]
      rfl
    simp only [arcs, List.map_cons, sl, g1, g2]
    cases hq : X (3 + i) with
    | true =>
      simp only [Bool.true_eq_false, if_false, true_and]
      by_cases h4 : X 2 = false
      · rw [if_pos h4]; have := h2 h4; omega
      · rw [if_neg h4]; exact ⟨by omega, fun hh => absurd hh h4⟩
    | false =>
      simp only [if_true, Bool.false_eq_true, false_and, if_false]
      exact ⟨by omega, fun hh => by have := h2 hh; omega⟩
theorem cut_src : ∀ (l : List Int) (i : Nat), sl ((arcs i l).map (gX fun v => decide (v = 0))) = sl l
  | [], _ => rfl
  | x :: l, i => by
    have e3 : (3 + (i : Int)).toNat = 3 + i := by omega
    simp only [arcs, List.map_cons, sl, cut_src l (i + 1)]
    unfold gX
    simp only [e3]
    rw [if_pos ⟨rfl, decide_eq_false (by omega)⟩, if_neg (fun hh => by have := of_decide_eq_true hh.1; omega)]
    omega
theorem cut_snk : ∀ (l : List Int) (i : Nat), sl ((arcs i l).map (gX fun v => decide (v ≠ 1))) = 0
  | [], _ => rfl
  | x :: l, i => by
    have e3 : (3 + (i : Int)).toNat = 3 + i := by omega
    simp only [arcs, List.map_cons, sl, cut_snk l (i + 1)]
    unfold gX
    simp only [e3]
    rw [if_neg (fun hh => by have := of_decide_eq_false hh.2; omega), if_neg (fun hh => by have := of_decide_eq_false hh.2; simp at this)]
    omega

theorem carries (F : Nat) (hF : 100000000000000000 ≤ F) (total : Int) (ht : 0 ≤ total ∧ total ≤ 1073741824) (l : List Int) (hl : l.length ≤ 8) (h : ∀ j, j < l.length → 0 ≤ l.getD j 0 ∧ l.getD j 0 ≤ 1073741824) :
    ∃ ll, flow_Max F (SNet.mk (3 + (l.length : Int)) (SArc.mk 2 1 total :: arcs 0 l)) 0 1 = some (if sl l ≤ total then sl l else total, ll, 0) := by
  obtain ⟨n, hn⟩ : ∃ n, n = SNet.mk (3 + (l.length : Int)) (SArc.mk 2 1 total :: arcs 0 l) := ⟨_, rfl⟩
  have hA : n.Arcs = SArc.mk 2 1 total :: arcs 0 l := by rw [hn]
  have hN : n.Nodes = ((3 + l.length : Nat) : Int) := by rw [hn]; simp only; omega
  have hlen : n.Arcs.length = 2 * l.length + 1 := by rw [hA, List.length_cons, arcs_len]
  have hok : ∀ j, j < n.Arcs.length → okArc n (n.Arcs.getD j dSArc) := by
    intro j hj
    have hm : n.Arcs.getD j dSArc ∈ n.Arcs := mem_getD hj
    rw [hA] at hm
    rw [hA]
    rcases List.mem_cons.1 hm with hm | hm
    · rw [hm]; unfold okArc; simp only; omega
    · exact arcs_ok n (3 + l.length) hN l 0 (by omega) h _ hm
  obtain ⟨hg, hv⟩ := good_of F hF n (3 + l.length) hN (by omega) (by omega) (by omega) hok
  obtain ⟨q, R, ll, h1, h2⟩ := max_good F hF n (3 + l.length) hg 0 1 (by omega) (by omega) (by decide) (hv 0 1 (by omega) (by omega) (by decide))
  have hnet := hg.net
  have hs0 : (0 : Nat) < 3 + l.length := by omega
  have e1 := val_eq_cap hnet h2.flow hs0 h2.least.src h2.snk h2.least.cl
  have u1 := val_le_cap hnet h2.flow (X := fun v => decide (v = 0)) hs0 (by decide) (by decide)
  have u2 := val_le_cap hnet h2.flow (X := fun v => decide (v ≠ 1)) hs0 (by decide) (by decide)
  rw [cap_list, hA, List.map_cons, sl, cut_src] at u1
  rw [cap_list, hA, List.map_cons, sl, cut_snk] at u2
  have v1 : gX (fun v => decide (v = 0)) (SArc.mk 2 1 total) = 0 := rfl
  have v2 : gX (fun v => decide (v ≠ 1)) (SArc.mk 2 1 total) = total := rfl
  rw [v1] at u1
  rw [v2] at u2
  obtain ⟨k1, k2⟩ := cut_lo R h2.least.src l 0 h
  rw [cap_list, hA, List.map_cons, sl] at e1
  have v3 : gX R (SArc.mk 2 1 total) = if R 2 = true then total else 0 := by
    unfold gX
    show (if R 2 = true ∧ R 1 = false then total else 0) = _
    by_cases h3 : R 2 = true
    · rw [if_pos ⟨h3, h2.snk⟩, if_pos h3]
    · rw [if_neg (fun hh => h3 hh.1), if_neg h3]
  rw [v3] at e1
  have hval : out n.Arcs q 0 = if sl l ≤ total then sl l else total := by
    rw [hA] at *
    cases hq : R 2 with
    | true => rw [hq] at e1; simp only [if_true] at e1; split <;> omega
    | false => rw [hq] at e1; have := k2 hq; simp only [Bool.false_eq_true, if_false] at e1; split <;> omega
  rw [← hn, ← hval]
  exact ⟨ll, h1⟩

theorem fits_l (F : Nat) (hF : 100000000000000000 ≤ F) (total : Int) (ht : 0 ≤ total ∧ total ≤ 1073741824) (l : List Int) (hl : l.length ≤ 8) (h : ∀ j, j < l.length → 0 ≤ l.getD j 0 ∧ l.getD j 0 ≤ 1073741824) : ∀ (k i : Nat) (sum : Int) (o : List SArc), i ≤ l.length → l.length < k + i → 0 ≤ sum → sum ≤ 1073741824 * i → sum + sl (l.drop i) = sl l →
    o.length = 2 * i + 1 → o ++ arcs i (l.drop i) = SArc.mk 2 1 total :: arcs 0 l → chargenettop_FlowsShare_1_l16 F l k sum (i : Int) o = some (decide (sl l ≤ total))
  | 0, i, sum, o, h1, h2, _, _, _, _, _ => by omega
  | k + 1, i, sum, o, h1, h2, h3, h4, h5, h6, h7 => by
    simp only [chargenettop_FlowsShare_1_l16, chargenettop_FlowsShare_1_b16, chargenettop_FlowsShare_1_p6]
    by_cases hi : i < l.length
    · have hx := h i hi
      have hdrop : l.drop i = l.getD i 0 :: l.drop (i + 1) := by rw [List.drop_eq_getElem_cons hi, getD_get hi]
      rw [hdrop, sl] at h5
      rw [hdrop, arcs] at h7
      rw [decide_eq_true (by omega), cond_true, guard_pos (by omega), guard_pos (by simp; omega), Int.toNat_natCast, Go.IntWalk.i64_in (3 + (i : Int)) (by omega), Go.IntWalk.i64_in (sum + l.getD i 0) (by omega), wsucc i (by omega)]
      exact fits_l F hF total ht l hl h k (i + 1) _ _ (by omega) (by omega) (by omega) (by omega) (by omega) (by simp [h6]; omega) (by rw [← h7]; simp)
    · rw [List.drop_eq_nil_of_le (by omega), sl] at h5
      rw [List.drop_eq_nil_of_le (by omega), arcs, List.append_nil] at h7
      obtain ⟨ll, hm⟩ := carries F hF total ht l hl h
      rw [decide_eq_false (by omega), cond_false, Go.IntWalk.i64_in (3 + (l.length : Int)) (by omega), h7, hm, Option.bind_some]
      simp only [decide_true, cond_true]
      congr 1
      refine decide_eq_decide.2 ?_
      split <;> omega
theorem fits_eq (F : Nat) (hF : 100000000000000000 ≤ F) (total : Int) (ht : 0 ≤ total ∧ total ≤ 1073741824) (l : List Int) (hl : l.length ≤ 8) (h : ∀ j, j < l.length → 0 ≤ l.getD j 0 ∧ l.getD j 0 ≤ 1073741824) : chargenettop_FlowsShare_1 F l total = some (decide (sl l ≤ total)) := by
  have := fits_l F hF total ht l hl h F 0 0 [SArc.mk 2 1 total] (by omega) (by omega) (by omega) (by omega) (by simp) (by simp) (by simp)
  unfold chargenettop_FlowsShare_1
  simpa only [Int.natCast_zero] using this

theorem same_l (a b : List Int) (h : a = b) (ha : a.length ≤ 8) (x y : Int) : ∀ (k i : Nat), i ≤ a.length → a.length < k + i → chargenettop_FlowsShare_l22 (a, x) (b, y) k (i : Int) = some true
  | 0, i, h1, h2 => by omega
  | k + 1, i, h1, h2 => by
    subst h
    simp only [chargenettop_FlowsShare_l22, chargenettop_FlowsShare_b22, chargenettop_FlowsShare_p12]
    by_cases hi : i < a.length
    · rw [decide_eq_true (by omega), cond_true, guard_pos (by omega), guard_pos (by omega), show (!decide True) = false by simp, cond_false, wsucc i (by omega)]
      exact same_l a a rfl ha x y k (i + 1) (by omega) (by omega)
    · rw [decide_eq_false (by omega), cond_false]

theorem p27_eq (F : Nat) (hF : 100000000000000000 ≤ F) (total : Int) (ht : 0 ≤ total ∧ total ≤ 1073741824) (caps : List Int) (hl : caps.length ≤ 8) (h : ∀ j, j < caps.length → 0 ≤ caps.getD j 0 ∧ caps.getD j 0 ≤ 1073741824) : chargenettop_FlowsShare_p27 F total caps = some true := by
  have hc : Caps caps.length caps := ⟨rfl, by omega, fun i hi => by have := h i hi; omega⟩
  obtain ⟨a, ha, sa⟩ := Fillf1_4.fill_share (F := F) (by omega) hc total total ht.1 (fun l hb => fits_eq F hF total ht l (by rw [hb.len]; exact hl) (fun j hj => by
    rw [hb.len] at hj
    have := hb.bd j hj; have := h j hj; omega))
  obtain ⟨b, hb, sb⟩ := share_eq F (by omega) hc total (by omega)
  have hab := sa.unique sb
  have hal := sa.len
  have hbl := sb.len
  unfold chargenettop_FlowsShare_p27
  rw [ha, hb, Option.bind_some, Option.bind_some]
  simp only [decide_true, Bool.not_true, cond_false]
  rw [decide_eq_true (by omega), decide_eq_true (by omega), Bool.not_true, cond_false, cond_false]
  have := same_l a b hab (by omega) 0 0 F 0 (by omega) (by omega)
  simpa only [Int.natCast_zero] using this

theorem caps_l (F : Nat) (hF : 100000000000000000 ≤ F) (total : Int) (ht : 0 ≤ total ∧ total ≤ 1073741824) (caps : List Int) (hl : caps.length ≤ 8) : ∀ (k i : Nat), i ≤ caps.length → caps.length < k + i → (∀ j, j < i → 0 ≤ caps.getD j 0 ∧ caps.getD j 0 ≤ 1073741824) → chargenettop_FlowsShare_l37 F total caps k (i : Int) = some true
  | 0, i, h1, h2, _ => by omega
  | k + 1, i, h1, h2, h3 => by
    simp only [chargenettop_FlowsShare_l37, chargenettop_FlowsShare_b37]
    by_cases hi : i < caps.length
    · rw [decide_eq_true (by omega), cond_true, guard_pos (by omega), Int.toNat_natCast]
      by_cases c1 : caps.getD i 0 < 0
      · rw [decide_eq_true c1]; rfl
      by_cases c2 : 1073741824 < caps.getD i 0
      · rw [decide_eq_false c1, decide_eq_true c2]; rfl
      rw [decide_eq_false c1, decide_eq_false c2, cond_false, cond_false, wsucc i (by omega)]
      exact caps_l F hF total ht caps hl k (i + 1) (by omega) (by omega) (fun j hj => by
        by_cases hji : j = i
        · subst hji; omega
        · exact h3 j (by omega))
    · rw [decide_eq_false (by omega), cond_false]
      exact p27_eq F hF total ht caps hl (fun j hj => h3 j (by omega))

theorem plain_chargenettop_FlowsShare (a0 : Int) (a1 : List Int) (w0 : (Lit.int .i64 a0).wf = true) (w1 : okVec (fun x : Int => (Lit.int .i64 x).wf = true) a1) : ∃ F, chargenettop_FlowsShare F a0 a1 = some true := by
  obtain ⟨F, hF⟩ : ∃ F : Nat, 100000000000000000 ≤ F := ⟨100000000000000000, Nat.le_refl _⟩
  refine ⟨F, ?_⟩
  unfold chargenettop_FlowsShare
  by_cases h1 : 8 < (a1.length : Int)
  · rw [decide_eq_true h1]; rfl
  by_cases h2 : a0 < 0
  · rw [decide_eq_false h1, decide_eq_true h2]; rfl
  by_cases h3 : 1073741824 < a0
  · rw [decide_eq_false h1, decide_eq_false h2, decide_eq_true h3]; rfl
  rw [decide_eq_false h1, decide_eq_false h2, decide_eq_false h3, cond_false, cond_false, cond_false]
  have := caps_l F hF a0 (by omega) a1 (by omega) F 0 (by omega) (by omega) (fun j hj => by omega)
  simpa only [Int.natCast_zero] using this
end Go.Proofs.Ythebmhkjelejbaa.M
