/- The plain law of FlowTurns: reversed networks have the same value. -/
import Derived.Test.YtbepoingholchaaPlainG
namespace Go.Proofs.Ytbepoingholchaa.M
open Go Go.Proofs.Ytbepoingholchaa.E Go.Proofs.Ytbepoingholchaa.W
set_option linter.unusedVariables false
set_option linter.unusedSimpArgs false

theorem turns_l (n : SNet) (N : Nat) (hN : GoodNet n N) (s t : Int) (c : Int × List Int × Int)
    (hfin : ∀ A1 A2 : List SArc, A1.length = n.Arcs.length → A2.length = n.Arcs.length → (∀ j, j < n.Arcs.length → A1.getD j dSArc = SArc.mk (n.Arcs.getD j dSArc).To (n.Arcs.getD j dSArc).From (n.Arcs.getD j dSArc).Cap) → (∀ j, j < n.Arcs.length → A2.getD j dSArc = n.Arcs.getD (n.Arcs.length - 1 - j) dSArc) → chargenetlaw09_FlowTurns_p26 FF n s t c A1 A2 = some true) :
    ∀ (k i : Nat) (o2 o4 : List SArc), i ≤ n.Arcs.length → n.Arcs.length < k + i → o2.length = i → o4.length = i → (∀ j, j < i → o2.getD j dSArc = SArc.mk (n.Arcs.getD j dSArc).To (n.Arcs.getD j dSArc).From (n.Arcs.getD j dSArc).Cap) → (∀ j, j < i → o4.getD j dSArc = n.Arcs.getD (n.Arcs.length - 1 - j) dSArc) →
    chargenetlaw09_FlowTurns_l40 FF n s t c k (i : Int) o2 o4 = some true
  | 0, i, o2, o4, h1, h2, _, _, _, _ => by omega
  | k + 1, i, o2, o4, h1, h2, l2, l4, g2, g4 => by
    have hlen := hN.len
    simp only [chargenetlaw09_FlowTurns_l40, chargenetlaw09_FlowTurns_b40]
    by_cases hi : i < n.Arcs.length
    · have w1 : IntKind.wrap .i64 ((n.Arcs.length : Int) - 1) = ((n.Arcs.length - 1 : Nat) : Int) := by rw [Go.IntWalk.i64_in _ (by omega)]; omega
      have w2 : IntKind.wrap .i64 (((n.Arcs.length - 1 : Nat) : Int) - (i : Int)) = ((n.Arcs.length - 1 - i : Nat) : Int) := by rw [Go.IntWalk.i64_in _ (by omega)]; omega
      rw [decide_eq_true (by omega), cond_true, w1, w2, guard_pos (by omega), guard_pos (by simp; omega), guard_pos (by omega), guard_pos (by simp; omega), wsucc i (by omega), Int.toNat_natCast, Int.toNat_natCast]
      refine turns_l n N hN s t c hfin k (i + 1) _ _ (by omega) (by omega) (by simp [l2]) (by simp [l4]) (fun j hj => ?_) (fun j hj => ?_)
      · rw [getD_append, l2]
        by_cases hji : j < i
        · rw [if_pos hji]; exact g2 j hji
        · have : j = i := by omega
          subst this
          rw [if_neg (by omega), Nat.sub_self]; rfl
      · rw [getD_append, l4]
        by_cases hji : j < i
        · rw [if_pos hji]; exact g4 j hji
        · have : j = i := by omega
          subst this
          rw [if_neg (by omega), Nat.sub_self]; rfl
    · have hii : i = n.Arcs.length := by omega
      subst hii
      rw [decide_eq_false (by omega), cond_false]
      exact hfin o2 o4 l2 l4 g2 g4

theorem plain_chargenetlaw09_FlowTurns (a0 : SNet) (a1 : Int) (a2 : Int) (w0 : okSNet a0) (w1 : (Lit.int .i64 a1).wf = true) (w2 : (Lit.int .i64 a2).wf = true) : ∃ F, chargenetlaw09_FlowTurns F a0 a1 a2 = some true := by
  refine ⟨FF, ?_⟩
  unfold chargenetlaw09_FlowTurns
  rw [awake_ok, small_eq]
  rcases cases_net FF FF_ge a0 a1 a2 with ⟨e, he, h1, h2, h3, h4⟩ | ⟨N, s, t, R, ll, cl, hN, rfl, rfl, hs, ht, hst, h1, h2, h3, h4, h5, h6, h7, h8⟩
  · rw [h2]
    simp only [Option.bind_some]
    rw [decide_eq_false he]
    cases decide (a0.Nodes ≤ 64 ∧ (a0.Arcs.length : Int) ≤ 200) <;> rfl
  · have hmost := hN.most
    have hlen := hN.len
    have htwo := hN.two
    have hA := hN.net
    have hall := turns_l a0 N hN (s : Int) (t : Int) (out a0.Arcs (lf ll) s, ll, 0) (fun A1 A2 m1 m2 g1 g2 => by
      have hn1 : (SNet.mk a0.Nodes A1).Nodes = (N : Int) := hN.nodes
      obtain ⟨k1, v1⟩ := good_of FF FF_ge (SNet.mk a0.Nodes A1) N hn1 htwo hmost (by show A1.length ≤ 2048; omega) (fun j hj => by
        have hj' : j < a0.Arcs.length := by rw [← m1]; exact hj
        have := hN.arc hj'
        show okArc (SNet.mk a0.Nodes A1) (A1.getD j dSArc)
        rw [g1 j hj']
        unfold okArc at this ⊢
        simp only
        omega)
      obtain ⟨k2, v2⟩ := good_of FF FF_ge (SNet.mk a0.Nodes A2) N hn1 htwo hmost (by show A2.length ≤ 2048; omega) (fun j hj => by
        have hj' : j < a0.Arcs.length := by rw [← m2]; exact hj
        have := hN.arc (j := a0.Arcs.length - 1 - j) (by omega)
        show okArc (SNet.mk a0.Nodes A2) (A2.getD j dSArc)
        rw [g2 j hj']
        unfold okArc at this ⊢
        simp only
        omega)
      obtain ⟨l1, R1, ll1, cl1, x1, x2, x3, x4, x5, x6, x7⟩ := max_cut FF FF_ge _ N k1 t s ht hs (fun h => hst h.symm) (v1 t s ht hs (fun h => hst h.symm))
      obtain ⟨l2, R2, ll2, cl2, y1, y2, y3, y4, y5, y6, y7⟩ := max_cut FF FF_ge _ N k2 s t hs ht hst (v2 s t hs ht hst)
      have cap1 : ∀ X : Nat → Bool, cap A1 X = cap a0.Arcs (fun v => !X v) := by
        intro X
        unfold cap
        rw [m1]
        refine S_congr fun i hi => ?_
        have e1 : aF A1 i = aT a0.Arcs i := by unfold aF aT; rw [g1 i hi]
        have e2 : aT A1 i = aF a0.Arcs i := by unfold aF aT; rw [g1 i hi]
        have e3 : aC A1 i = aC a0.Arcs i := by unfold aC; rw [g1 i hi]
        rw [e1, e2, e3]
        show (if X (aT a0.Arcs i) = true ∧ X (aF a0.Arcs i) = false then aC a0.Arcs i else 0) = (if (!X (aF a0.Arcs i)) = true ∧ (!X (aT a0.Arcs i)) = false then aC a0.Arcs i else 0)
        cases X (aT a0.Arcs i) <;> cases X (aF a0.Arcs i) <;> simp
      have cap2 : ∀ X : Nat → Bool, cap A2 X = cap a0.Arcs X := by
        intro X
        unfold cap
        rw [m2, ← S_rev (fun i => if X (aF a0.Arcs i) = true ∧ X (aT a0.Arcs i) = false then aC a0.Arcs i else 0) a0.Arcs.length]
        refine S_congr fun i hi => ?_
        have e1 : aF A2 i = aF a0.Arcs (a0.Arcs.length - 1 - i) := by unfold aF; rw [g2 i hi]
        have e2 : aT A2 i = aT a0.Arcs (a0.Arcs.length - 1 - i) := by unfold aT; rw [g2 i hi]
        have e3 : aC A2 i = aC a0.Arcs (a0.Arcs.length - 1 - i) := by unfold aC; rw [g2 i hi]
        rw [e1, e2, e3]
      have q1 : out a0.Arcs (lf ll) s ≤ out A1 l1 t + 0 := val_le hA hs h5 k1.net ht x3 (fun v => !R1 v) (by rw [x3.snk]; rfl) (by rw [x3.least.src]; rfl) 0 (by show cap a0.Arcs (fun v => !R1 v) ≤ cap A1 R1 + 0; rw [← cap1 R1]; omega)
      have q2 : out A1 l1 t ≤ out a0.Arcs (lf ll) s + 0 := val_le k1.net ht x3 hA hs h5 (fun v => !R v) (by rw [h5.snk]; rfl) (by rw [h5.least.src]; rfl) 0 (by
        have := cap1 (fun v => !R v)
        simp only [Bool.not_not] at this
        show cap A1 (fun v => !R v) ≤ _
        rw [this, Int.add_zero]; exact Int.le_refl _)
      have q3 : out a0.Arcs (lf ll) s ≤ out A2 l2 s + 0 := val_le hA hs h5 k2.net hs y3 R2 y3.least.src y3.snk 0 (by show cap a0.Arcs R2 ≤ cap A2 R2 + 0; rw [← cap2 R2]; omega)
      have q4 : out A2 l2 s ≤ out a0.Arcs (lf ll) s + 0 := val_le k2.net hs y3 hA hs h5 R h5.least.src h5.snk 0 (by show cap A2 R ≤ _; rw [cap2 R]; omega)
      unfold chargenetlaw09_FlowTurns_p26
      rw [x1, y1]
      simp only [Option.bind_some]
      rw [decide_eq_true (show out a0.Arcs (lf ll) s = out (SNet.mk a0.Nodes A1).Arcs l1 t by show _ = out A1 l1 t; omega), decide_eq_true (show out a0.Arcs (lf ll) s = out (SNet.mk a0.Nodes A2).Arcs l2 s by show _ = out A2 l2 s; omega), awake_ok]
      rfl) FF 0 [] [] (by omega) (by have := FF_ge; omega) rfl rfl (fun j hj => by omega) (fun j hj => by omega)
    have hall' : chargenetlaw09_FlowTurns_l40 FF a0 (s : Int) (t : Int) (out a0.Arcs (lf ll) s, ll, 0) FF 0 [] [] = some true := hall
    rw [h2, h3]
    simp only [Option.bind_some]
    rw [hall']
    cases decide (a0.Nodes ≤ 64 ∧ (a0.Arcs.length : Int) ≤ 200) <;> rfl
end Go.Proofs.Ytbepoingholchaa.M
