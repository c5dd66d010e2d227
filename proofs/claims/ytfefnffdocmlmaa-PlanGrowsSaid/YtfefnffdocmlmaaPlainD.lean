/- Plain laws: valid networks, Max. -/
import Derived.Test.YtfefnffdocmlmaaPlainC
namespace Go.Proofs.Ytfefnffdocmlmaa.M
open Go Go.Proofs.Ytfefnffdocmlmaa.E Go.Proofs.Ytfefnffdocmlmaa.W
set_option linter.unusedVariables false
set_option linter.unusedSimpArgs false
def okArc (n : SNet) (a : SArc) : Prop := 0 ≤ a.From ∧ a.From < n.Nodes ∧ 0 ≤ a.To ∧ a.To < n.Nodes ∧ a.From ≠ a.To ∧ 0 ≤ a.Cap ∧ a.Cap ≤ 1099511627776
theorem isNode_eq (F : Nat) (n : SNet) (x : Int) : flow_isNode F n x = some (decide (0 ≤ x ∧ x < n.Nodes)) := by
 unfold flow_isNode
 by_cases h : 0 ≤ x
 ·rw [decide_eq_true h]; simp [h]
 ·rw [decide_eq_false h]; simp [h]
theorem valid_l (F : Nat) (n : SNet) (hl : n.Arcs.length ≤ 2048) : ∀ (k i : Nat), i ≤ n.Arcs.length → n.Arcs.length < k + i →
  ∃ e, flow_Valid_l28 F n k (i : Int) = some e ∧ chargenetref09_Valid_l24 n k (i : Int) = some e ∧ (e = 0 → ∀ j, i ≤ j → j < n.Arcs.length → okArc n (n.Arcs.getD j dSArc))
 | 0, i, h1, h2 => by omega
 | k + 1, i, h1, h2 => by
  simp only [flow_Valid_l28, flow_Valid_b28, chargenetref09_Valid_l24, chargenetref09_Valid_b24, flow_Valid_p4, chargenetref09_Valid_p4]
  by_cases hi : i < n.Arcs.length
  ·rw [decide_eq_true (show (i : Int) < (n.Arcs.length : Int) by omega), cond_true, cond_true, guard_pos (by omega), guard_pos (by omega), Int.toNat_natCast, isNode_eq, isNode_eq, wsucc i (by omega)]
   obtain ⟨a, ha⟩ : ∃ a, a = n.Arcs.getD i dSArc := ⟨_, rfl⟩
   rw [← ha]
   have bad : ∀ (e : Int), e ≠ 0 → ∃ e', some e = some e' ∧ some e = some e' ∧ (e' = 0 → ∀ j, i ≤ j → j < n.Arcs.length → okArc n (n.Arcs.getD j dSArc)) := fun e he => ⟨e, rfl, rfl, fun h => absurd h he⟩
   simp only [Option.bind_some]
   by_cases f1 : a.From < 0
   ·rw [decide_eq_false (show ¬ (0 ≤ a.From ∧ a.From < n.Nodes) by omega), decide_eq_true f1]; exact bad 2 (by decide)
   rw [decide_eq_false f1, cond_false]
   by_cases f2 : n.Nodes ≤ a.From
   ·rw [decide_eq_false (show ¬ (0 ≤ a.From ∧ a.From < n.Nodes) by omega), decide_eq_true f2]; exact bad 2 (by decide)
   rw [decide_eq_false f2, cond_false, decide_eq_true (show 0 ≤ a.From ∧ a.From < n.Nodes by omega), Bool.not_true, cond_false]
   by_cases t1 : a.To < 0
   ·rw [decide_eq_false (show ¬ (0 ≤ a.To ∧ a.To < n.Nodes) by omega), decide_eq_true t1]; exact bad 2 (by decide)
   rw [decide_eq_false t1, cond_false]
   by_cases t2 : n.Nodes ≤ a.To
   ·rw [decide_eq_false (show ¬ (0 ≤ a.To ∧ a.To < n.Nodes) by omega), decide_eq_true t2]; exact bad 2 (by decide)
   rw [decide_eq_false t2, cond_false, decide_eq_true (show 0 ≤ a.To ∧ a.To < n.Nodes by omega), Bool.not_true, cond_false]
   by_cases c0 : a.From = a.To
   ·rw [decide_eq_true c0]; exact bad 1 (by decide)
   rw [decide_eq_false c0, cond_false, cond_false]
   by_cases c1 : a.Cap < 0
   ·rw [decide_eq_true c1]; exact bad 2 (by decide)
   rw [decide_eq_false c1, cond_false, cond_false]
   by_cases c2 : 1099511627776 < a.Cap
   ·rw [decide_eq_true c2]; exact bad 2 (by decide)
   rw [decide_eq_false c2, cond_false, cond_false]
   obtain ⟨e, h3, h4, h5⟩ := valid_l F n hl k (i + 1) (by omega) (by omega)
   refine ⟨e, h3, h4, fun he j hj1 hj2 => ?_⟩
   by_cases hji : j = i
   ·subst hji; rw [← ha]; exact ⟨by omega, by omega, by omega, by omega, c0, by omega, by omega⟩
   ·exact h5 he j (by omega) hj2
  ·rw [decide_eq_false (by omega), cond_false, cond_false]
   exact ⟨0, rfl, rfl, fun _ j h3 h4 => by omega⟩
structure GoodNet (n : SNet) (N : Nat) : Prop where
 nodes : n.Nodes = (N : Int)
 two : 2 ≤ N
 most : N ≤ 256
 len : n.Arcs.length ≤ 2048
 net : Net n.Arcs N
theorem valid_eq (F : Nat) (hF : 100000000000000000 ≤ F) (n : SNet) : ∃ e, flow_Valid F n = some e ∧ chargenetref09_Valid F n = some e ∧ (e = 0 → ∃ N, GoodNet n N) := by
 unfold flow_Valid chargenetref09_Valid
 by_cases h1 : n.Nodes < 2
 ·rw [decide_eq_true h1]; exact ⟨2, rfl, rfl, fun h => absurd h (by decide)⟩
 rw [decide_eq_false h1, cond_false, cond_false]
 by_cases h2 : 256 < n.Nodes
 ·rw [decide_eq_true h2]; exact ⟨3, rfl, rfl, fun h => absurd h (by decide)⟩
 rw [decide_eq_false h2, cond_false, cond_false]
 by_cases h3 : (2048 : Int) < (n.Arcs.length : Int)
 ·rw [decide_eq_true h3]; exact ⟨3, rfl, rfl, fun h => absurd h (by decide)⟩
 rw [decide_eq_false h3, cond_false, cond_false]
 obtain ⟨e, h4, h5, h6⟩ := valid_l F n (by omega) F 0 (by omega) (by omega)
 refine ⟨e, h4, h5, fun he => ⟨n.Nodes.toNat, by omega, by omega, by omega, by omega, ?_⟩⟩
 have h7 := h6 he
 refine ⟨fun i hi => ?_, fun i hi => ?_, fun i hi => ?_, fun i hi => ?_, by omega, by omega⟩
 ·have := h7 i (by omega) hi; unfold okArc at this; unfold aF; omega
 ·have := h7 i (by omega) hi; unfold okArc at this; unfold aT; omega
 ·have := h7 i (by omega) hi; unfold okArc at this; unfold aF aT; omega
 ·have := h7 i (by omega) hi; unfold okArc at this; unfold aC; omega
theorem ends_eq (F : Nat) (hF : 100000000000000000 ≤ F) (n : SNet) (s t : Int) : ∃ e, flow_valid F n s t = some e ∧ chargenetref09_Ends F n s t = some e ∧ (e = 0 → ∃ (N s' t' : Nat), GoodNet n N ∧ s = (s' : Int) ∧ t = (t' : Int) ∧ s' < N ∧ t' < N ∧ s' ≠ t') := by
 obtain ⟨e, h1, h2, h3⟩ := valid_eq F hF n
 unfold flow_valid chargenetref09_Ends
 rw [h1, h2, isNode_eq, isNode_eq]
 simp only [Option.bind_some]
 by_cases h0 : e = 0
 ·subst h0
  rw [decide_eq_true rfl, Bool.not_true, cond_false, cond_false]
  obtain ⟨N, hN⟩ := h3 rfl
  have hn := hN.nodes
  by_cases s1 : s < 0
  ·rw [decide_eq_false (show ¬ (0 ≤ s ∧ s < n.Nodes) by omega), decide_eq_true s1]; exact ⟨2, rfl, rfl, fun h => absurd h (by decide)⟩
  rw [decide_eq_false s1, cond_false]
  by_cases s2 : n.Nodes ≤ s
  ·rw [decide_eq_false (show ¬ (0 ≤ s ∧ s < n.Nodes) by omega), decide_eq_true s2]; exact ⟨2, rfl, rfl, fun h => absurd h (by decide)⟩
  rw [decide_eq_false s2, cond_false, decide_eq_true (show 0 ≤ s ∧ s < n.Nodes by omega), Bool.not_true, cond_false]
  by_cases t1 : t < 0
  ·rw [decide_eq_false (show ¬ (0 ≤ t ∧ t < n.Nodes) by omega), decide_eq_true t1]; exact ⟨2, rfl, rfl, fun h => absurd h (by decide)⟩
  rw [decide_eq_false t1, cond_false]
  by_cases t2 : n.Nodes ≤ t
  ·rw [decide_eq_false (show ¬ (0 ≤ t ∧ t < n.Nodes) by omega), decide_eq_true t2]; exact ⟨2, rfl, rfl, fun h => absurd h (by decide)⟩
  rw [decide_eq_false t2, cond_false, decide_eq_true (show 0 ≤ t ∧ t < n.Nodes by omega), Bool.not_true, cond_false]
  by_cases st : s = t
  ·rw [decide_eq_true st]; exact ⟨2, rfl, rfl, fun h => absurd h (by decide)⟩
  ·rw [decide_eq_false st]
   exact ⟨0, rfl, rfl, fun _ => ⟨N, s.toNat, t.toNat, hN, by omega, by omega, by omega, by omega, by omega⟩⟩
 ·rw [decide_eq_false h0, Bool.not_false, cond_true, cond_true]
  exact ⟨e, rfl, rfl, fun h => absurd h h0⟩
theorem max_l (n : SNet) (N : Nat) (hN : GoodNet n N) (c : Int × List SEdge × List Int × List Int) (l : Nat → Int) (hE : Ed n.Arcs c.2.1 l) : ∀ (k i : Nat) (o : List Int), i ≤ n.Arcs.length → n.Arcs.length < k + i → o.length = n.Arcs.length → (∀ j, j < i → o.getD j 0 = l j) →
  ∃ ll : List Int, flow_Max_own_l19 n c k (i : Int) o = some (c.1, ll, 0) ∧ ll.length = n.Arcs.length ∧ ∀ j, j < n.Arcs.length → ll.getD j 0 = l j
 | 0, i, o, h1, h2, _, _ => by omega
 | k + 1, i, o, h1, h2, ho, hg => by
  have hlen := hN.len
  have hEl := hE.len
  simp only [flow_Max_own_l19, flow_Max_own_b19, List.length_replicate, Int.toNat_natCast]
  by_cases hi : i < n.Arcs.length
  ·have w1 : IntKind.wrap .i64 (2 * (i : Int)) = ((2 * i : Nat) : Int) := by rw [Go.IntWalk.i64_in _ (by omega)]; omega
   have w2 : IntKind.wrap .i64 (((2 * i : Nat) : Int) + 1) = ((2 * i + 1 : Nat) : Int) := by rw [Go.IntWalk.i64_in _ (by omega)]; omega
   rw [decide_eq_true (by omega), cond_true, w1, w2, guard_pos (by omega), guard_pos (by omega), Int.toNat_natCast, hE.get (2 * i + 1) (by omega), wsucc i (by omega)]
   refine max_l n N hN c l hE k (i + 1) _ (by omega) (by omega) (by simpa using ho) (fun j hj => ?_)
   have e1 : rm n.Arcs l (2 * i + 1) = l i := by unfold rm; rw [if_neg (by omega), show (2 * i + 1) / 2 = i by omega]
   rw [getD_set]
   by_cases hji : j = i
   ·subst hji; rw [if_pos ⟨rfl, by omega⟩]; exact e1
   ·rw [if_neg (fun hh => hji hh.1)]; exact hg j (by omega)
  ·rw [decide_eq_false (by omega), cond_false]
   unfold flow_Max_own_p10
   exact ⟨o, rfl, ho, fun j hj => hg j (by omega)⟩
theorem max_eq (F : Nat) (hF : 100000000000000000 ≤ F) (n : SNet) (N : Nat) (hN : GoodNet n N) (s t : Nat) (hs : s < N) (ht : t < N) (hst : s ≠ t) (hv : flow_valid F n (s : Int) (t : Int) = some 0) :
  ∃ (l : Nat → Int) (R : Nat → Bool) (ll : List Int), flow_Max_own F n (s : Int) (t : Int) = some (out n.Arcs l s, ll, 0) ∧ Great n.Arcs N s t l R ∧ ll.length = n.Arcs.length ∧ (∀ j, j < n.Arcs.length → ll.getD j 0 = l j) := by
 have hlen := hN.len
 have hmost := hN.most
 obtain ⟨B, E, L, T, l, h1, h2, h3, h4, h5⟩ := run_eq n N hN.net hN.nodes hs ht hst F hF
 obtain ⟨ll, m1, m2, m3⟩ := max_l n N hN (out n.Arcs l s, E, L, T) l h3 F 0 (List.replicate n.Arcs.length 0) (by omega) (by omega) (by simp) (fun j hj => by omega)
 refine ⟨l, lset L, ll, ?_, h5, m2, m3⟩
 unfold flow_Max_own
 rw [hv, Option.bind_some, decide_eq_true rfl, Bool.not_true, cond_false, h1, Option.bind_some, h2, Option.bind_some, guard_pos (by omega), Int.toNat_natCast]
 exact m1
def lf (ll : List Int) (i : Nat) : Int := ll.getD i 0
theorem out_congr {A : List SArc} {l l' : Nat → Int} (h : ∀ i, i < A.length → l i = l' i) (v : Nat) : out A l v = out A l' v := by
 unfold out
 exact S_congr fun i hi => by rw [h i hi]
theorem Flow.congr {A : List SArc} {N s t : Nat} {l l' : Nat → Int} (h : ∀ i, i < A.length → l i = l' i) (hf : Flow A N s t l) : Flow A N s t l' :=
 ⟨fun i hi => by rw [← h i hi]; exact hf.bd i hi, fun v hv h1 h2 => by rw [← out_congr h]; exact hf.cons v hv h1 h2⟩
theorem Closed.congr {A : List SArc} {l l' : Nat → Int} {X : Nat → Bool} (h : ∀ i, i < A.length → l i = l' i) (hf : Closed A l X) : Closed A l' X := fun i hi => by rw [← h i hi]; exact hf i hi
theorem Least.congr {A : List SArc} {N s : Nat} {l l' : Nat → Int} {R : Nat → Bool} (h : ∀ i, i < A.length → l i = l' i) (hf : Least A N l s R) : Least A N l' s R :=
 ⟨hf.src, hf.cl.congr h, fun X hs hc => hf.min X hs (hc.congr (fun i hi => (h i hi).symm))⟩
theorem Great.congr {A : List SArc} {N s t : Nat} {l l' : Nat → Int} {R : Nat → Bool} (h : ∀ i, i < A.length → l i = l' i) (hf : Great A N s t l R) : Great A N s t l' R := ⟨hf.flow.congr h, hf.least.congr h, hf.snk⟩
theorem lf_eq {ll : List Int} {l : Nat → Int} {m : Nat} (h : ∀ j, j < m → ll.getD j 0 = l j) : ∀ j, j < m → l j = lf ll j := fun j hj => (h j hj).symm
theorem valid_l2 (F : Nat) (n : SNet) (hl : n.Arcs.length ≤ 2048) (h : ∀ j, j < n.Arcs.length → okArc n (n.Arcs.getD j dSArc)) : ∀ (k i : Nat), i ≤ n.Arcs.length → n.Arcs.length < k + i → flow_Valid_l28 F n k (i : Int) = some 0
 | 0, i, h1, h2 => by omega
 | k + 1, i, h1, h2 => by
  simp only [flow_Valid_l28, flow_Valid_b28, flow_Valid_p4]
  by_cases hi : i < n.Arcs.length
  ·have ha := h i hi
   unfold okArc at ha
   rw [decide_eq_true (show (i : Int) < (n.Arcs.length : Int) by omega), cond_true, guard_pos (by omega), Int.toNat_natCast, isNode_eq, isNode_eq, wsucc i (by omega)]
   simp only [Option.bind_some]
   rw [decide_eq_true (by omega), decide_eq_true (by omega), decide_eq_false (by omega), decide_eq_false (by omega), decide_eq_false (by omega)]
   exact valid_l2 F n hl h k (i + 1) (by omega) (by omega)
  ·rw [decide_eq_false (by omega)]; rfl
theorem good_of (F : Nat) (hF : 100000000000000000 ≤ F) (n : SNet) (N : Nat) (hn : n.Nodes = (N : Int)) (h2 : 2 ≤ N) (hN : N ≤ 256) (hl : n.Arcs.length ≤ 2048) (h : ∀ j, j < n.Arcs.length → okArc n (n.Arcs.getD j dSArc)) :
  GoodNet n N ∧ ∀ s t : Nat, s < N → t < N → s ≠ t → flow_valid F n (s : Int) (t : Int) = some 0 := by
 refine ⟨⟨hn, h2, hN, hl, ⟨fun i hi => ?_, fun i hi => ?_, fun i hi => ?_, fun i hi => ?_, by omega, by omega⟩⟩, fun s t hs ht hst => ?_⟩
 ·have := h i hi; unfold okArc at this; unfold aF; omega
 ·have := h i hi; unfold okArc at this; unfold aT; omega
 ·have := h i hi; unfold okArc at this; unfold aF aT; omega
 ·have := h i hi; unfold okArc at this; unfold aC; omega
 ·have e1 : flow_Valid F n = some 0 := by
   unfold flow_Valid
   rw [decide_eq_false (by omega), decide_eq_false (by omega), decide_eq_false (by omega)]
   exact valid_l2 F n hl h F 0 (by omega) (by omega)
  unfold flow_valid
  rw [e1, isNode_eq, isNode_eq]
  simp only [Option.bind_some]
  rw [decide_eq_true (show (0 : Int) ≤ (s : Int) ∧ (s : Int) < n.Nodes by omega), decide_eq_true (show (0 : Int) ≤ (t : Int) ∧ (t : Int) < n.Nodes by omega), decide_eq_false (show ¬ (s : Int) = (t : Int) by omega)]
  rfl
theorem GoodNet.arc {n : SNet} {N : Nat} (h : GoodNet n N) {j : Nat} (hj : j < n.Arcs.length) : okArc n (n.Arcs.getD j dSArc) := by
 have h1 := h.net.f j hj
 have h2 := h.net.t j hj
 have h3 := h.net.ne j hj
 have h4 := h.net.c j hj
 have h5 := h.nodes
 unfold aC at h4
 unfold okArc
 omega
end Go.Proofs.Ytfefnffdocmlmaa.M
