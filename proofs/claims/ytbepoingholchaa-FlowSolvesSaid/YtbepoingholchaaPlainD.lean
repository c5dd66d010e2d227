/- Plain laws of chapter 9: what is valid; Max, Cut; the reference's Check, Reach, Capacity. -/
import Derived.Test.YtbepoingholchaaPlainC
namespace Go.Proofs.Ytbepoingholchaa.M
open Go Go.Proofs.Ytbepoingholchaa.E Go.Proofs.Ytbepoingholchaa.W
set_option linter.unusedVariables false
set_option linter.unusedSimpArgs false

/-! ### Valid -/
def okArc (n : SNet) (a : SArc) : Prop := 0 ≤ a.From ∧ a.From < n.Nodes ∧ 0 ≤ a.To ∧ a.To < n.Nodes ∧ a.From ≠ a.To ∧ 0 ≤ a.Cap ∧ a.Cap ≤ 1099511627776

theorem isNode_eq (F : Nat) (n : SNet) (x : Int) : flow_isNode F n x = some (decide (0 ≤ x ∧ x < n.Nodes)) := by
  unfold flow_isNode
  by_cases h : 0 ≤ x
  · rw [decide_eq_true h]; simp [h]
  · rw [decide_eq_false h]; simp [h]

theorem valid_l (F : Nat) (n : SNet) (hl : n.Arcs.length ≤ 2048) : ∀ (k i : Nat), i ≤ n.Arcs.length → n.Arcs.length < k + i →
    ∃ e, flow_Valid_l28 F n k (i : Int) = some e ∧ chargenetref09_Valid_l24 n k (i : Int) = some e ∧ (e = 0 → ∀ j, i ≤ j → j < n.Arcs.length → okArc n (n.Arcs.getD j dSArc))
  | 0, i, h1, h2 => by omega
  | k + 1, i, h1, h2 => by
    simp only [flow_Valid_l28, flow_Valid_b28, chargenetref09_Valid_l24, chargenetref09_Valid_b24, flow_Valid_p4, chargenetref09_Valid_p4]
    by_cases hi : i < n.Arcs.length
    · rw [decide_eq_true (show (i : Int) < (n.Arcs.length : Int) by omega), cond_true, cond_true, guard_pos (by omega), guard_pos (by omega), Int.toNat_natCast, isNode_eq, isNode_eq, wsucc i (by omega)]
      obtain ⟨a, ha⟩ : ∃ a, a = n.Arcs.getD i dSArc := ⟨_, rfl⟩
      rw [← ha]
      have bad : ∀ (e : Int), e ≠ 0 → ∃ e', some e = some e' ∧ some e = some e' ∧ (e' = 0 → ∀ j, i ≤ j → j < n.Arcs.length → okArc n (n.Arcs.getD j dSArc)) := fun e he => ⟨e, rfl, rfl, fun h => absurd h he⟩
      simp only [Option.bind_some]
      by_cases f1 : a.From < 0
      · rw [decide_eq_false (show ¬ (0 ≤ a.From ∧ a.From < n.Nodes) by omega), decide_eq_true f1]; exact bad 2 (by decide)
      rw [decide_eq_false f1, cond_false]
      by_cases f2 : n.Nodes ≤ a.From
      · rw [decide_eq_false (show ¬ (0 ≤ a.From ∧ a.From < n.Nodes) by omega), decide_eq_true f2]; exact bad 2 (by decide)
      rw [decide_eq_false f2, cond_false, decide_eq_true (show 0 ≤ a.From ∧ a.From < n.Nodes by omega), Bool.not_true, cond_false]
      by_cases t1 : a.To < 0
      · rw [decide_eq_false (show ¬ (0 ≤ a.To ∧ a.To < n.Nodes) by omega), decide_eq_true t1]; exact bad 2 (by decide)
      rw [decide_eq_false t1, cond_false]
      by_cases t2 : n.Nodes ≤ a.To
      · rw [decide_eq_false (show ¬ (0 ≤ a.To ∧ a.To < n.Nodes) by omega), decide_eq_true t2]; exact bad 2 (by decide)
      rw [decide_eq_false t2, cond_false, decide_eq_true (show 0 ≤ a.To ∧ a.To < n.Nodes by omega), Bool.not_true, cond_false]
      by_cases c0 : a.From = a.To
      · rw [decide_eq_true c0]; exact bad 1 (by decide)
      rw [decide_eq_false c0, cond_false, cond_false]
      by_cases c1 : a.Cap < 0
      · rw [decide_eq_true c1]; exact bad 2 (by decide)
      rw [decide_eq_false c1, cond_false, cond_false]
      by_cases c2 : 1099511627776 < a.Cap
      · rw [decide_eq_true c2]; exact bad 2 (by decide)
      rw [decide_eq_false c2, cond_false, cond_false]
      obtain ⟨e, h3, h4, h5⟩ := valid_l F n hl k (i + 1) (by omega) (by omega)
      refine ⟨e, h3, h4, fun he j hj1 hj2 => ?_⟩
      by_cases hji : j = i
      · subst hji; rw [← ha]; exact ⟨by omega, by omega, by omega, by omega, c0, by omega, by omega⟩
      · exact h5 he j (by omega) hj2
    · rw [decide_eq_false (by omega), cond_false, cond_false]
      exact ⟨0, rfl, rfl, fun _ j h3 h4 => by omega⟩

structure GoodNet (n : SNet) (N : Nat) : Prop where
  nodes : n.Nodes = (N : Int)
  two : 2 ≤ N
  most : N ≤ 256
  len : n.Arcs.length ≤ 2048
  net : Net n.Arcs N

theorem valid_eq (F : Nat) (hF : 100000000000000000 ≤ F) (n : SNet) : ∃ e, flow_Valid F n = some e ∧ chargenetref09_Valid F n = some e ∧ (e = 0 → ∃ N, GoodNet n N) := by
  unfold flow_Valid chargenetref09_Valid
  by_cases h1 : n.Nodes < 2
  · rw [decide_eq_true h1]; exact ⟨2, rfl, rfl, fun h => absurd h (by decide)⟩
  rw [decide_eq_false h1, cond_false, cond_false]
  by_cases h2 : 256 < n.Nodes
  · rw [decide_eq_true h2]; exact ⟨3, rfl, rfl, fun h => absurd h (by decide)⟩
  rw [decide_eq_false h2, cond_false, cond_false]
  by_cases h3 : (2048 : Int) < (n.Arcs.length : Int)
  · rw [decide_eq_true h3]; exact ⟨3, rfl, rfl, fun h => absurd h (by decide)⟩
  rw [decide_eq_false h3, cond_false, cond_false]
  obtain ⟨e, h4, h5, h6⟩ := valid_l F n (by omega) F 0 (by omega) (by omega)
  refine ⟨e, h4, h5, fun he => ⟨n.Nodes.toNat, by omega, by omega, by omega, by omega, ?_⟩⟩
  have h7 := h6 he
  refine ⟨fun i hi => ?_, fun i hi => ?_, fun i hi => ?_, fun i hi => ?_, by omega, by omega⟩
  · have := h7 i (by omega) hi; unfold okArc at this; unfold aF; omega
  · have := h7 i (by omega) hi; unfold okArc at this; unfold aT; omega
  · have := h7 i (by omega) hi; unfold okArc at this; unfold aF aT; omega
  · have := h7 i (by omega) hi; unfold okArc at this; unfold aC; omega

theorem ends_eq (F : Nat) (hF : 100000000000000000 ≤ F) (n : SNet) (s t : Int) : ∃ e, flow_valid F n s t = some e ∧ chargenetref09_Ends F n s t = some e ∧ (e = 0 → ∃ (N s' t' : Nat), GoodNet n N ∧ s = (s' : Int) ∧ t = (t' : Int) ∧ s' < N ∧ t' < N ∧ s' ≠ t') := by
  obtain ⟨e, h1, h2, h3⟩ := valid_eq F hF n
  unfold flow_valid chargenetref09_Ends
  rw [h1, h2, isNode_eq, isNode_eq]
  simp only [Option.bind_some]
  by_cases h0 : e = 0
  · subst h0
    rw [decide_eq_true rfl, Bool.not_true, cond_false, cond_false]
    obtain ⟨N, hN⟩ := h3 rfl
    have hn := hN.nodes
    by_cases s1 : s < 0
    · rw [decide_eq_false (show ¬ (0 ≤ s ∧ s < n.Nodes) by omega), decide_eq_true s1]; exact ⟨2, rfl, rfl, fun h => absurd h (by decide)⟩
    rw [decide_eq_false s1, cond_false]
    by_cases s2 : n.Nodes ≤ s
    · rw [decide_eq_false (show ¬ (0 ≤ s ∧ s < n.Nodes) by omega), decide_eq_true s2]; exact ⟨2, rfl, rfl, fun h => absurd h (by decide)⟩
    rw [decide_eq_false s2, cond_false, decide_eq_true (show 0 ≤ s ∧ s < n.Nodes by omega), Bool.not_true, cond_false]
    by_cases t1 : t < 0
    · rw [decide_eq_false (show ¬ (0 ≤ t ∧ t < n.Nodes) by omega), decide_eq_true t1]; exact ⟨2, rfl, rfl, fun h => absurd h (by decide)⟩
    rw [decide_eq_false t1, cond_false]
    by_cases t2 : n.Nodes ≤ t
    · rw [decide_eq_false (show ¬ (0 ≤ t ∧ t < n.Nodes) by omega), decide_eq_true t2]; exact ⟨2, rfl, rfl, fun h => absurd h (by decide)⟩
    rw [decide_eq_false t2, cond_false, decide_eq_true (show 0 ≤ t ∧ t < n.Nodes by omega), Bool.not_true, cond_false]
    by_cases st : s = t
    · rw [decide_eq_true st]; exact ⟨2, rfl, rfl, fun h => absurd h (by decide)⟩
    · rw [decide_eq_false st]
      exact ⟨0, rfl, rfl, fun _ => ⟨N, s.toNat, t.toNat, hN, by omega, by omega, by omega, by omega, by omega⟩⟩
  · rw [decide_eq_false h0, Bool.not_false, cond_true, cond_true]
    exact ⟨e, rfl, rfl, fun h => absurd h h0⟩

/-! ### Max and Cut -/
theorem max_l (n : SNet) (N : Nat) (hN : GoodNet n N) (c : Int × List SEdge × List Int × List Int) (l : Nat → Int) (hE : Ed n.Arcs c.2.1 l) : ∀ (k i : Nat) (o : List Int), i ≤ n.Arcs.length → n.Arcs.length < k + i → o.length = n.Arcs.length → (∀ j, j < i → o.getD j 0 = l j) →
    ∃ ll : List Int, flow_Max_l19 n c k (i : Int) o = some (c.1, ll, 0) ∧ ll.length = n.Arcs.length ∧ ∀ j, j < n.Arcs.length → ll.getD j 0 = l j
  | 0, i, o, h1, h2, _, _ => by omega
  | k + 1, i, o, h1, h2, ho, hg => by
    have hlen := hN.len
    have hEl := hE.len
    simp only [flow_Max_l19, flow_Max_b19, List.length_replicate, Int.toNat_natCast]
    by_cases hi : i < n.Arcs.length
    · have w1 : IntKind.wrap .i64 (2 * (i : Int)) = ((2 * i : Nat) : Int) := by rw [Go.IntWalk.i64_in _ (by omega)]; omega
      have w2 : IntKind.wrap .i64 (((2 * i : Nat) : Int) + 1) = ((2 * i + 1 : Nat) : Int) := by rw [Go.IntWalk.i64_in _ (by omega)]; omega
      rw [decide_eq_true (by omega), cond_true, w1, w2, guard_pos (by omega), guard_pos (by omega), Int.toNat_natCast, hE.get (2 * i + 1) (by omega), wsucc i (by omega)]
      refine max_l n N hN c l hE k (i + 1) _ (by omega) (by omega) (by simpa using ho) (fun j hj => ?_)
      have e1 : rm n.Arcs l (2 * i + 1) = l i := by unfold rm; rw [if_neg (by omega), show (2 * i + 1) / 2 = i by omega]
      rw [getD_set]
      by_cases hji : j = i
      · subst hji; rw [if_pos ⟨rfl, by omega⟩]; exact e1
      · rw [if_neg (fun hh => hji hh.1)]; exact hg j (by omega)
    · rw [decide_eq_false (by omega), cond_false]
      unfold flow_Max_p10
      exact ⟨o, rfl, ho, fun j hj => hg j (by omega)⟩

theorem cut_l (n : SNet) (N : Nat) (hN : GoodNet n N) (c : Int × List SEdge × List Int × List Int) (hL : c.2.2.1.length = N) : ∀ (k i : Nat) (o : List Bool), i ≤ N → N < k + i → o.length = N → (∀ j, j < i → o.getD j false = lset c.2.2.1 j) →
    ∃ ll : List Bool, flow_Cut_l19 n c k (i : Int) o = some (ll, 0) ∧ ll.length = N ∧ ∀ j, j < N → ll.getD j false = lset c.2.2.1 j
  | 0, i, o, h1, h2, _, _ => by omega
  | k + 1, i, o, h1, h2, ho, hg => by
    have hmost := hN.most
    simp only [flow_Cut_l19, flow_Cut_b19, List.length_replicate, hN.nodes, Int.toNat_natCast]
    by_cases hi : i < N
    · rw [decide_eq_true (by omega), cond_true, guard_pos (by omega), guard_pos (by omega), wsucc i (by omega)]
      refine cut_l n N hN c hL k (i + 1) _ (by omega) (by omega) (by simpa using ho) (fun j hj => ?_)
      rw [getD_set]
      by_cases hji : j = i
      · subst hji; rw [if_pos ⟨rfl, by omega⟩]; rfl
      · rw [if_neg (fun hh => hji hh.1)]; exact hg j (by omega)
    · rw [decide_eq_false (by omega), cond_false]
      unfold flow_Cut_p10
      exact ⟨o, rfl, ho, fun j hj => hg j (by omega)⟩

/-- Max and Cut of a good network. -/
theorem max_cut (F : Nat) (hF : 100000000000000000 ≤ F) (n : SNet) (N : Nat) (hN : GoodNet n N) (s t : Nat) (hs : s < N) (ht : t < N) (hst : s ≠ t) (hv : flow_valid F n (s : Int) (t : Int) = some 0) :
    ∃ (l : Nat → Int) (R : Nat → Bool) (ll : List Int) (cl : List Bool), flow_Max F n (s : Int) (t : Int) = some (out n.Arcs l s, ll, 0) ∧ flow_Cut F n (s : Int) (t : Int) = some (cl, 0) ∧ Great n.Arcs N s t l R ∧
      ll.length = n.Arcs.length ∧ (∀ j, j < n.Arcs.length → ll.getD j 0 = l j) ∧ cl.length = N ∧ (∀ j, j < N → cl.getD j false = R j) := by
  have hlen := hN.len
  have hmost := hN.most
  obtain ⟨B, E, L, T, l, h1, h2, h3, h4, h5⟩ := run_eq n N hN.net hN.nodes hs ht hst F hF
  obtain ⟨ll, m1, m2, m3⟩ := max_l n N hN (out n.Arcs l s, E, L, T) l h3 F 0 (List.replicate n.Arcs.length 0) (by omega) (by omega) (by simp) (fun j hj => by omega)
  obtain ⟨cl, c1, c2, c3⟩ := cut_l n N hN (out n.Arcs l s, E, L, T) h4 F 0 (List.replicate N false) (by omega) (by omega) (by simp) (fun j hj => by omega)
  refine ⟨l, lset L, ll, cl, ?_, ?_, h5, m2, m3, c2, c3⟩
  · unfold flow_Max
    rw [hv, Option.bind_some, decide_eq_true rfl, Bool.not_true, cond_false, h1, Option.bind_some, h2, Option.bind_some, guard_pos (by omega), Int.toNat_natCast]
    exact m1
  · unfold flow_Cut
    rw [hv, Option.bind_some, decide_eq_true rfl, Bool.not_true, cond_false, h1, Option.bind_some, h2, Option.bind_some, hN.nodes, guard_pos (by omega), Int.toNat_natCast]
    exact c1

/-! ### Check -/
def lf (ll : List Int) (i : Nat) : Int := ll.getD i 0

/-- What leaves the nodes by the first arcs. -/
def part (A : List SArc) (l : Nat → Int) (v i : Nat) : Int := S (fun i => (if aF A i = v then l i else 0) - (if aT A i = v then l i else 0)) i

theorem part_bd (A : List SArc) (l : Nat → Int) (v : Nat) : ∀ i : Nat, (∀ j, j < i → 0 ≤ l j ∧ l j ≤ 1099511627776) → -(1099511627776 * (i : Int)) ≤ part A l v i ∧ part A l v i ≤ 1099511627776 * i
  | 0, _ => by simp [part, S]
  | i + 1, h => by
    have h1 := part_bd A l v i (fun j hj => h j (by omega))
    have h2 := h i (by omega)
    unfold part at h1 ⊢
    simp only [S]
    rw [show ((i + 1 : Nat) : Int) = (i : Int) + 1 by omega]
    split <;> split <;> omega

theorem check_v (n : SNet) (N : Nat) (hN : GoodNet n N) (s t : Nat) (hs : s < N) (o : List Int) (ho : o.length = N) : ∀ (k v : Nat), v ≤ N → N < k + v →
    ∃ r, flow_Check_l22 (s : Int) (t : Int) o k (v : Int) = some r ∧ chargenetref09_Check_l22 n (s : Int) (t : Int) o k (v : Int) = some r ∧ ((∀ u, v ≤ u → u < N → u ≠ s → u ≠ t → o.getD u 0 = 0) → r = (o.getD s 0, true)) ∧ (r.2 = true → r = (o.getD s 0, true))
  | 0, v, h1, h2 => by omega
  | k + 1, v, h1, h2 => by
    have hmost := hN.most
    simp only [flow_Check_l22, flow_Check_b22, chargenetref09_Check_l22, chargenetref09_Check_b22, flow_Check_p8, chargenetref09_Check_p8, flow_Check_p24, chargenetref09_Check_p24]
    by_cases hv : v < N
    · obtain ⟨r, e1, e2, e3, e4⟩ := check_v n N hN s t hs o ho k (v + 1) (by omega) (by omega)
      rw [decide_eq_true (show (v : Int) < (o.length : Int) by omega), decide_eq_true (show (v : Int) < n.Nodes by rw [hN.nodes]; omega), cond_true, cond_true, guard_pos (by omega), guard_pos (by omega), Int.toNat_natCast, wsucc v (by omega), e1, e2]
      have ok : (u : Nat) → (∀ u, v ≤ u → u < N → u ≠ s → u ≠ t → o.getD u 0 = 0) → r = (o.getD s 0, true) := fun _ h => e3 (fun u h1 h2 => h u (by omega) h2)
      by_cases c1 : v = s
      · rw [decide_eq_true (show (v : Int) = (s : Int) by omega), Bool.not_true, cond_false, cond_false]
        refine ⟨r, by cases decide (o.getD v 0 = 0) <;> rfl, rfl, ok 0, e4⟩
      · rw [decide_eq_false (show ¬ (v : Int) = (s : Int) by omega), Bool.not_false, cond_true, cond_true]
        by_cases c2 : v = t
        · rw [decide_eq_true (show (v : Int) = (t : Int) by omega), Bool.not_true, cond_false, cond_false]
          refine ⟨r, by cases decide (o.getD v 0 = 0) <;> rfl, rfl, ok 0, e4⟩
        · rw [decide_eq_false (show ¬ (v : Int) = (t : Int) by omega), Bool.not_false, cond_true, cond_true]
          by_cases c3 : o.getD v 0 = 0
          · rw [decide_eq_true c3]
            exact ⟨r, rfl, rfl, ok 0, e4⟩
          · rw [decide_eq_false c3]
            exact ⟨(0, false), rfl, rfl, fun h => absurd (h v (Nat.le_refl _) hv c1 c2) c3, fun h => by cases h⟩
    · rw [decide_eq_false (show ¬ (v : Int) < (o.length : Int) by omega), decide_eq_false (show ¬ (v : Int) < n.Nodes by rw [hN.nodes]; omega), cond_false, cond_false, guard_pos (by omega), Int.toNat_natCast]
      exact ⟨_, rfl, rfl, fun _ => rfl, fun _ => rfl⟩

theorem check_l (F : Nat) (hF : 100000000000000000 ≤ F) (n : SNet) (N : Nat) (hN : GoodNet n N) (s t : Nat) (hs : s < N) (ll : List Int) (hll : ll.length = n.Arcs.length) : ∀ (k i : Nat) (o : List Int), i ≤ n.Arcs.length → n.Arcs.length < k + i → o.length = N →
    (∀ v, v < N → o.getD v 0 = part n.Arcs (lf ll) v i) → (∀ j, j < i → 0 ≤ lf ll j ∧ lf ll j ≤ aC n.Arcs j) →
    ∃ r, flow_Check_l56 F n (s : Int) (t : Int) ll k (i : Int) o = some r ∧ chargenetref09_Check_l56 F n (s : Int) (t : Int) ll k (i : Int) o = some r ∧ (Flow n.Arcs N s t (lf ll) → r = (out n.Arcs (lf ll) s, true))
  | 0, i, o, h1, h2, _, _, _ => by omega
  | k + 1, i, o, h1, h2, ho, hg, hb => by
    have hmost := hN.most
    have hlen := hN.len
    have hA := hN.net
    simp only [flow_Check_l56, flow_Check_b56, chargenetref09_Check_l56, chargenetref09_Check_b56]
    by_cases hi : i < n.Arcs.length
    · obtain ⟨f1, f2⟩ := hA.f i hi
      obtain ⟨t1, t2⟩ := hA.t i hi
      have hne := hA.ne i hi
      have hc := hA.c i hi
      rw [decide_eq_true (show (i : Int) < (n.Arcs.length : Int) by omega), decide_eq_true (show (i : Int) < (ll.length : Int) by omega), cond_true, cond_true, Int.toNat_natCast]
      have G1 : ∀ {α : Type} (x : Option α), E.guard ((0 : Int) ≤ (i : Int) ∧ (i : Int) < (n.Arcs.length : Int)) x = x := fun x => guard_pos (by omega)
      have G2 : ∀ {α : Type} (x : Option α), E.guard ((0 : Int) ≤ (i : Int) ∧ (i : Int) < (ll.length : Int)) x = x := fun x => guard_pos (by omega)
      simp only [G1, G2]
      by_cases c1 : ll.getD i 0 < 0
      · rw [decide_eq_true c1]
        exact ⟨(0, false), rfl, rfl, fun h => by have := (h.bd i hi).1; unfold lf at this; omega⟩
      rw [decide_eq_false c1, cond_false, cond_false]
      by_cases c2 : (n.Arcs.getD i dSArc).Cap < ll.getD i 0
      · rw [decide_eq_true c2]
        exact ⟨(0, false), rfl, rfl, fun h => by have := (h.bd i hi).2; unfold lf aC at this; omega⟩
      have hli : 0 ≤ ll.getD i 0 ∧ ll.getD i 0 ≤ 1099511627776 := by unfold aC at hc; omega
      have hb' : ∀ j, j < i → 0 ≤ lf ll j ∧ lf ll j ≤ 1099511627776 := fun j hj => ⟨(hb j hj).1, Int.le_trans (hb j hj).2 (hA.c j (by omega)).2⟩
      have pf := part_bd n.Arcs (lf ll) (aF n.Arcs i) i hb'
      have pt := part_bd n.Arcs (lf ll) (aT n.Arcs i) i hb'
      have ef := hg _ f2
      have et := hg _ t2
      have w1 : IntKind.wrap .i64 (o.getD (aF n.Arcs i) 0 + ll.getD i 0) = o.getD (aF n.Arcs i) 0 + ll.getD i 0 := Go.IntWalk.i64_in _ (by omega)
      have w2 : IntKind.wrap .i64 (o.getD (aT n.Arcs i) 0 - ll.getD i 0) = o.getD (aT n.Arcs i) 0 - ll.getD i 0 := Go.IntWalk.i64_in _ (by omega)
      have hset : ∀ x : Int, (o.set (aF n.Arcs i) x).getD (aT n.Arcs i) 0 = o.getD (aT n.Arcs i) 0 := fun x => by rw [getD_set, if_neg (fun hh => hne hh.1.symm)]
      rw [decide_eq_false c2, cond_false, cond_false]
      simp only [f1, t1, Int.toNat_natCast, w1, hset, w2, List.length_set]
      have G3 : ∀ {α : Type} (x : Option α), E.guard ((0 : Int) ≤ (aF n.Arcs i : Int) ∧ (aF n.Arcs i : Int) < (o.length : Int)) x = x := fun x => guard_pos (by omega)
      have G4 : ∀ {α : Type} (x : Option α), E.guard ((0 : Int) ≤ (aT n.Arcs i : Int) ∧ (aT n.Arcs i : Int) < (o.length : Int)) x = x := fun x => guard_pos (by omega)
      simp only [G3, G4, wsucc i (show i < 1000000000000 by omega)]
      refine check_l F hF n N hN s t hs ll hll k (i + 1) _ (by omega) (by omega) (by simpa using ho) (fun v hv => ?_) (fun j hj => ?_)
      · rw [getD_set, getD_set, List.length_set, ho]
        have e0 := hg v hv
        unfold part at e0 ⊢
        simp only [S]
        by_cases v1 : v = aT n.Arcs i
        · subst v1
          rw [if_pos (show aT n.Arcs i = aT n.Arcs i ∧ aT n.Arcs i < N from ⟨rfl, t2⟩), if_neg hne, if_pos (show aT n.Arcs i = aT n.Arcs i from rfl), e0]; unfold lf; omega
        · rw [if_neg (show ¬ (v = aT n.Arcs i ∧ aT n.Arcs i < N) from fun hh => v1 hh.1), if_neg (show ¬ aT n.Arcs i = v from fun hh => v1 hh.symm)]
          by_cases v2 : v = aF n.Arcs i
          · subst v2
            rw [if_pos (show aF n.Arcs i = aF n.Arcs i ∧ aF n.Arcs i < N from ⟨rfl, f2⟩), if_pos (show aF n.Arcs i = aF n.Arcs i from rfl), e0]; unfold lf; omega
          · rw [if_neg (show ¬ (v = aF n.Arcs i ∧ aF n.Arcs i < N) from fun hh => v2 hh.1), if_neg (show ¬ aF n.Arcs i = v from fun hh => v2 hh.symm), e0]; omega
      · by_cases hji : j = i
        · subst hji; unfold lf aC; omega
        · exact hb j (by omega)
    · rw [decide_eq_false (show ¬ (i : Int) < (n.Arcs.length : Int) by omega), decide_eq_false (show ¬ (i : Int) < (ll.length : Int) by omega), cond_false, cond_false]
      unfold flow_Check_p29 chargenetref09_Check_p29
      obtain ⟨r, e1, e2, e3, e4⟩ := check_v n N hN s t hs o ho F 0 (by omega) (by omega)
      refine ⟨r, e1, e2, fun h => ?_⟩
      have hii : i = n.Arcs.length := by omega
      subst hii
      rw [e3 (fun u _ hu h3 h4 => by rw [hg u hu]; exact h.cons u hu h3 h4), hg s hs]
      rfl

theorem check_eq (F : Nat) (hF : 100000000000000000 ≤ F) (n : SNet) (s t : Int) (ll : List Int) : ∃ r, flow_Check F n s t ll = some r ∧ chargenetref09_Check F n s t ll = some r := by
  obtain ⟨e, h1, h2, h3⟩ := ends_eq F hF n s t
  unfold flow_Check chargenetref09_Check
  rw [h1, h2]
  simp only [Option.bind_some]
  by_cases h0 : e = 0
  · obtain ⟨N, s', t', hN, rfl, rfl, g1, g2, g3⟩ := h3 h0
    subst h0
    have hmost := hN.most
    rw [decide_eq_true rfl, Bool.not_true, cond_false, cond_false]
    by_cases hl : ll.length = n.Arcs.length
    · rw [decide_eq_true (by omega), Bool.not_true, cond_false, cond_false, hN.nodes, guard_pos (by omega), guard_pos (by omega), Int.toNat_natCast]
      obtain ⟨r, e1, e2, _⟩ := check_l F hF n N hN s' t' g1 ll hl F 0 (List.replicate N 0) (by omega) (by have := hN.len; omega) (by simp) (fun v hv => by rw [getD_rep]; rfl) (fun j hj => by omega)
      exact ⟨r, e1, e2⟩
    · rw [decide_eq_false (by omega)]; exact ⟨_, rfl, rfl⟩
  · rw [decide_eq_false h0]; exact ⟨_, rfl, rfl⟩

theorem check_flow (F : Nat) (hF : 100000000000000000 ≤ F) (n : SNet) (N : Nat) (hN : GoodNet n N) (s t : Nat) (hs : s < N) (hv : chargenetref09_Ends F n (s : Int) (t : Int) = some 0) (ll : List Int) (hl : ll.length = n.Arcs.length) (hf : Flow n.Arcs N s t (lf ll)) :
    chargenetref09_Check F n (s : Int) (t : Int) ll = some (out n.Arcs (lf ll) s, true) := by
  have hmost := hN.most
  unfold chargenetref09_Check
  rw [hv, Option.bind_some, decide_eq_true rfl, Bool.not_true, cond_false, decide_eq_true (by omega), Bool.not_true, cond_false, hN.nodes, guard_pos (by omega), Int.toNat_natCast]
  obtain ⟨r, e1, e2, e3⟩ := check_l F hF n N hN s t hs ll hl F 0 (List.replicate N 0) (by omega) (by have := hN.len; omega) (by simp) (fun v hv => by rw [getD_rep]; rfl) (fun j hj => by omega)
  exact e2.trans (by rw [e3 hf])
end Go.Proofs.Ytbepoingholchaa.M
