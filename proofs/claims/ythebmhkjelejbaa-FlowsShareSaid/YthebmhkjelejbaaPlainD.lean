/- Plain laws: good networks, and Max of them. -/
import Derived.Test.YthebmhkjelejbaaPlainC
namespace Go.Proofs.Ythebmhkjelejbaa.M
open Go Go.Proofs.Ythebmhkjelejbaa.E Go.Proofs.Ythebmhkjelejbaa.W
set_option linter.unusedVariables false
set_option linter.unusedSimpArgs false

def okArc (n : SNet) (a : SArc) : Prop := 0 ≤ a.From ∧ a.From < n.Nodes ∧ 0 ≤ a.To ∧ a.To < n.Nodes ∧ a.From ≠ a.To ∧ 0 ≤ a.Cap ∧ a.Cap ≤ 1099511627776
theorem isNode_eq (F : Nat) (n : SNet) (x : Int) : flow_isNode F n x = some (decide (0 ≤ x ∧ x < n.Nodes)) := by
  unfold flow_isNode
  by_cases h : 0 ≤ x
  · rw [decide_eq_true h]; simp [h]
  · rw [decide_eq_false h]; simp [h]
structure GoodNet (n : SNet) (N : Nat) : Prop where
  nodes : n.Nodes = (N : Int)
  two : 2 ≤ N
  most : N ≤ 256
  len : n.Arcs.length ≤ 2048
  net : Net n.Arcs N
theorem max_l (n : SNet) (N : Nat) (hN : GoodNet n N) (c : Int × List SEdge × List Int × List Int) (l : Nat → Int) (hE : Ed n.Arcs c.2.1 l) : ∀ (k i : Nat) (o : List Int), i ≤ n.Arcs.length → n.Arcs.length < k + i → o.length = n.Arcs.length → (∀ j, j < i → o.getD j 0 = l j) →
    ∃ ll : List Int, flow_Max_l19 n c k (i : Int) o = some (c.1, ll, 0) ∧ ll.length = n.Arcs.length ∧ ∀ j, j < n.Arcs.length → ll.getD j 0 = l j
  | 0, i, o, h1, h2, _, _ => by omega
  | k + 1, i, o, h1, h2, ho, hg => by
    have hlen := hN.len
    have hEl := hE.len
    simp only [flow_Max_l19, flow_Max_b19, List.length_replicate, Int.toNat_natCast]
    by_cases hi : i < n.Arcs.length
    · have w1 : IntKind.wrap .i64 (2 * (i : Int)) = ((2 * i : Nat) : Int) := by rw [Go.IntWalk.i64_in _ (by omega)]; omega
      have w2 : IntKind.wrap .i64 (((2 * i : Nat) : Int) + 1) = ((2 * i + 1 : Nat) : Int) := by rw [Go.IntWalk.i64_in _ (by omega)]; omega
      rw [decide_eq_true (by omega), cond_true, w1, w2, guard_pos (by omega), guard_pos (by omega), Int.toNat_natCast, hE.get (2 * i + 1) (by omega), wsucc i (by omega)]
      refine max_l n N hN c l hE k (i + 1) _ (by omega) (by omega) (by simpa using ho) (fun j hj => ?_)
      have e1 : rm n.Arcs l (2 * i + 1) = l i := by unfold rm; rw [if_neg (by omega), show (2 * i + 1) / 2 = i by omega]
      rw [getD_set]
      by_cases hji : j = i
      · subst hji; rw [if_pos ⟨rfl, by omega⟩]; exact e1
      · rw [if_neg (fun hh => hji hh.1)]; exact hg j (by omega)
    · rw [decide_eq_false (by omega), cond_false]
      unfold flow_Max_p10
      exact ⟨o, rfl, ho, fun j hj => hg j (by omega)⟩
theorem valid_l2 (F : Nat) (n : SNet) (hl : n.Arcs.length ≤ 2048) (h : ∀ j, j < n.Arcs.length → okArc n (n.Arcs.getD j dSArc)) : ∀ (k i : Nat), i ≤ n.Arcs.length → n.Arcs.length < k + i → flow_Valid_l28 F n k (i : Int) = some 0
  | 0, i, h1, h2 => by omega
  | k + 1, i, h1, h2 => by
    simp only [flow_Valid_l28, flow_Valid_b28, flow_Valid_p4]
    by_cases hi : i < n.Arcs.length
    · have ha := h i hi
      unfold okArc at ha
      rw [decide_eq_true (show (i : Int) < (n.Arcs.length : Int) by omega), cond_true, guard_pos (by omega), Int.toNat_natCast, isNode_eq, isNode_eq, wsucc i (by omega)]
      simp only [Option.bind_some]
      rw [decide_eq_true (by omega), decide_eq_true (by omega), decide_eq_false (by omega), decide_eq_false (by omega), decide_eq_false (by omega)]
      exact valid_l2 F n hl h k (i + 1) (by omega) (by omega)
    · rw [decide_eq_false (by omega)]; rfl
theorem good_of (F : Nat) (hF : 100000000000000000 ≤ F) (n : SNet) (N : Nat) (hn : n.Nodes = (N : Int)) (h2 : 2 ≤ N) (hN : N ≤ 256) (hl : n.Arcs.length ≤ 2048) (h : ∀ j, j < n.Arcs.length → okArc n (n.Arcs.getD j dSArc)) :
    GoodNet n N ∧ ∀ s t : Nat, s < N → t < N → s ≠ t → flow_valid F n (s : Int) (t : Int) = some 0 := by
  refine ⟨⟨hn, h2, hN, hl, ⟨fun i hi => ?_, fun i hi => ?_, fun i hi => ?_, fun i hi => ?_, by omega, by omega⟩⟩, fun s t hs ht hst => ?_⟩
  · have := h i hi; unfold okArc at this; unfold aF; omega
  · have := h i hi; unfold okArc at this; unfold aT; omega
  · have := h i hi; unfold okArc at this; unfold aF aT; omega
  · have := h i hi; unfold okArc at this; unfold aC; omega
  · have e1 : flow_Valid F n = some 0 := by
      unfold flow_Valid
      rw [decide_eq_false (by omega), decide_eq_false (by omega), decide_eq_false (by omega)]
      exact valid_l2 F n hl h F 0 (by omega) (by omega)
    unfold flow_valid
    rw [e1, isNode_eq, isNode_eq]
    simp only [Option.bind_some]
    rw [decide_eq_true (show (0 : Int) ≤ (s : Int) ∧ (s : Int) < n.Nodes by omega), decide_eq_true (show (0 : Int) ≤ (t : Int) ∧ (t : Int) < n.Nodes by omega), decide_eq_false (show ¬ (s : Int) = (t : Int) by omega)]
    rfl
/-- Max of a good network. -/
theorem max_good (F : Nat) (hF : 100000000000000000 ≤ F) (n : SNet) (N : Nat) (hN : GoodNet n N) (s t : Nat) (hs : s < N) (ht : t < N) (hst : s ≠ t) (hv : flow_valid F n (s : Int) (t : Int) = some 0) :
    ∃ (l : Nat → Int) (R : Nat → Bool) (ll : List Int), flow_Max F n (s : Int) (t : Int) = some (out n.Arcs l s, ll, 0) ∧ Great n.Arcs N s t l R := by
  have hlen := hN.len
  have hmost := hN.most
  obtain ⟨B, E, L, T, l, h1, h2, h3, h4, h5⟩ := run_eq n N hN.net hN.nodes hs ht hst F hF
  obtain ⟨ll, m1, m2, m3⟩ := max_l n N hN (out n.Arcs l s, E, L, T) l h3 F 0 (List.replicate n.Arcs.length 0) (by omega) (by omega) (by simp) (fun j hj => by omega)
  refine ⟨l, lset L, ll, ?_, h5⟩
  unfold flow_Max
  rw [hv, Option.bind_some, decide_eq_true rfl, Bool.not_true, cond_false, h1, Option.bind_some, h2, Option.bind_some, guard_pos (by omega), Int.toNat_natCast]
  exact m1
end Go.Proofs.Ythebmhkjelejbaa.M
