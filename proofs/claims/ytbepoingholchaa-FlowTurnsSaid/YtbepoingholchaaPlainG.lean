/- Plain laws of chapter 9: networks that are made of others. -/
import Derived.Test.YtbepoingholchaaPlainF
namespace Go.Proofs.Ytbepoingholchaa.M
open Go Go.Proofs.Ytbepoingholchaa.E Go.Proofs.Ytbepoingholchaa.W
set_option linter.unusedVariables false
set_option linter.unusedSimpArgs false

theorem valid_l2 (F : Nat) (n : SNet) (hl : n.Arcs.length ≤ 2048) (h : ∀ j, j < n.Arcs.length → okArc n (n.Arcs.getD j dSArc)) : ∀ (k i : Nat), i ≤ n.Arcs.length → n.Arcs.length < k + i → flow_Valid_l28 F n k (i : Int) = some 0
  | 0, i, h1, h2 => by omega
  | k + 1, i, h1, h2 => by
    simp only [flow_Valid_l28, flow_Valid_b28, flow_Valid_p4]
    by_cases hi : i < n.Arcs.length
    · have ha := h i hi
      unfold okArc at ha
      rw [decide_eq_true (show (i : Int) < (n.Arcs.length : Int) by omega), cond_true, guard_pos (by omega), Int.toNat_natCast, isNode_eq, isNode_eq, wsucc i (by omega)]
      simp only [Option.bind_some]
      rw [decide_eq_true (by omega), decide_eq_true (by omega), decide_eq_false (by omega), decide_eq_false (by omega), decide_eq_false (by omega)]
      exact valid_l2 F n hl h k (i + 1) (by omega) (by omega)
    · rw [decide_eq_false (by omega)]; rfl

/-- A network of good parts is good. -/
theorem good_of (F : Nat) (hF : 100000000000000000 ≤ F) (n : SNet) (N : Nat) (hn : n.Nodes = (N : Int)) (h2 : 2 ≤ N) (hN : N ≤ 256) (hl : n.Arcs.length ≤ 2048) (h : ∀ j, j < n.Arcs.length → okArc n (n.Arcs.getD j dSArc)) :
    GoodNet n N ∧ ∀ s t : Nat, s < N → t < N → s ≠ t → flow_valid F n (s : Int) (t : Int) = some 0 := by
  refine ⟨⟨hn, h2, hN, hl, ⟨fun i hi => ?_, fun i hi => ?_, fun i hi => ?_, fun i hi => ?_, by omega, by omega⟩⟩, fun s t hs ht hst => ?_⟩
  · have := h i hi; unfold okArc at this; unfold aF; omega
  · have := h i hi; unfold okArc at this; unfold aT; omega
  · have := h i hi; unfold okArc at this; unfold aF aT; omega
  · have := h i hi; unfold okArc at this; unfold aC; omega
  · have e1 : flow_Valid F n = some 0 := by
      unfold flow_Valid
      rw [decide_eq_false (by omega), decide_eq_false (by omega), decide_eq_false (by omega)]
      exact valid_l2 F n hl h F 0 (by omega) (by omega)
    unfold flow_valid
    rw [e1, isNode_eq, isNode_eq]
    simp only [Option.bind_some]
    rw [decide_eq_true (show (0 : Int) ≤ (s : Int) ∧ (s : Int) < n.Nodes by omega), decide_eq_true (show (0 : Int) ≤ (t : Int) ∧ (t : Int) < n.Nodes by omega), decide_eq_false (show ¬ (s : Int) = (t : Int) by omega)]
    rfl

theorem GoodNet.arc {n : SNet} {N : Nat} (h : GoodNet n N) {j : Nat} (hj : j < n.Arcs.length) : okArc n (n.Arcs.getD j dSArc) := by
  have h1 := h.net.f j hj
  have h2 := h.net.t j hj
  have h3 := h.net.ne j hj
  have h4 := h.net.c j hj
  have h5 := h.nodes
  unfold aC at h4
  unfold okArc
  omega

/-- Two networks whose cuts can be compared have values that can be compared. -/
theorem val_le {A A' : List SArc} {N s t s' t' : Nat} {l l' : Nat → Int} {R R' : Nat → Bool} (hA : Net A N) (hs : s < N) (hg : Great A N s t l R) (hA' : Net A' N) (hs' : s' < N) (hg' : Great A' N s' t' l' R') (X : Nat → Bool) (hXs : X s = true) (hXt : X t = false) (d : Int) (hc : cap A X ≤ cap A' R' + d) :
    out A l s ≤ out A' l' s' + d := by
  have h1 := val_le_cap hA hg.flow hs hXs hXt
  have h2 := hg'.cap hA' hs'
  omega

theorem S_rev (g : Nat → Int) : ∀ n : Nat, S (fun i => g (n - 1 - i)) n = S g n := by
  have key : ∀ (n k : Nat), S (fun i => g (n + k - 1 - i)) n + S g k = S g (n + k) := by
    intro n
    induction n with
    | zero => intro k; simp [S]
    | succ n ih =>
      intro k
      have h1 := ih (k + 1)
      rw [show S g (k + 1) = S g k + g k from rfl] at h1
      rw [show S (fun i => g (n + 1 + k - 1 - i)) (n + 1) = S (fun i => g (n + 1 + k - 1 - i)) n + g (n + 1 + k - 1 - n) from rfl]
      have e1 : S (fun i => g (n + 1 + k - 1 - i)) n = S (fun i => g (n + (k + 1) - 1 - i)) n := S_congr fun i _ => by congr 1; omega
      rw [e1, show n + 1 + k - 1 - n = k by omega, show n + 1 + k = n + (k + 1) by omega, ← h1]
      omega
  intro n
  have := key n 0
  simpa [S] using this
end Go.Proofs.Ytbepoingholchaa.M
