/- The plain law of FlowGrows: the value grows by at most as much as one capacity. -/
import Derived.Test.YtbepoingholchaaPlainG
namespace Go.Proofs.Ytbepoingholchaa.M
open Go Go.Proofs.Ytbepoingholchaa.E Go.Proofs.Ytbepoingholchaa.W
set_option linter.unusedVariables false
set_option linter.unusedSimpArgs false

theorem plain_chargenetlaw09_FlowGrows (a0 : SNet) (a1 : Int) (a2 : Int) (a3 : Int) (a4 : Int) (w0 : okSNet a0) (w1 : (Lit.int .i64 a1).wf = true) (w2 : (Lit.int .i64 a2).wf = true) (w3 : (Lit.int .u8 a3).wf = true) (w4 : (Lit.int .u32 a4).wf = true) : ∃ F, chargenetlaw09_FlowGrows F a0 a1 a2 a3 a4 = some true := by
  have b3 : 0 ≤ a3 ∧ a3 ≤ 255 := by simp [Lit.wf, IntKind.min, IntKind.max, IntKind.signed, IntKind.bits] at w3; omega
  have b4 : 0 ≤ a4 ∧ a4 ≤ 4294967295 := by simp [Lit.wf, IntKind.min, IntKind.max, IntKind.signed, IntKind.bits] at w4; omega
  refine ⟨FF, ?_⟩
  unfold chargenetlaw09_FlowGrows
  rw [awake_ok, small_eq]
  rcases cases_net FF FF_ge a0 a1 a2 with ⟨e, he, h1, h2, h3, h4⟩ | ⟨N, s, t, R, ll, cl, hN, rfl, rfl, hs, ht, hst, h1, h2, h3, h4, h5, h6, h7, h8⟩
  · rw [h2]
    simp only [Option.bind_some]
    rw [decide_eq_false he]
    cases decide (a0.Nodes ≤ 64 ∧ (a0.Arcs.length : Int) ≤ 200) <;> rfl
  · have hmost := hN.most
    have hlen := hN.len
    have htwo := hN.two
    have hA := hN.net
    rw [h2, h3]
    simp only [Option.bind_some]
    simp only [decide_true, Bool.not_true, cond_false]
    cases decide (a0.Nodes ≤ 64 ∧ (a0.Arcs.length : Int) ≤ 200)
    · rfl
    simp only [Bool.not_true, cond_false]
    by_cases hz : (a0.Arcs.length : Int) = 0
    · rw [decide_eq_true hz]; rfl
    rw [decide_eq_false hz, cond_false, guard_pos hz, Go.IntWalk.i64_in a3 (by omega), Go.IntWalk.i64_in a4 (by omega), Go.IntWalk.rem_in _ _ b3.1]
    obtain ⟨i, hi⟩ : ∃ i : Nat, a3 % (a0.Arcs.length : Int) = (i : Int) := ⟨(a3 % (a0.Arcs.length : Int)).toNat, by have := Int.emod_nonneg a3 hz; omega⟩
    have hil : i < a0.Arcs.length := by have := Int.emod_lt_of_pos a3 (show 0 < (a0.Arcs.length : Int) by omega); omega
    have hok := hN.arc hil
    unfold okArc at hok
    rw [hi]
    simp only [List.nil_append, Int.toNat_natCast, List.length_nil, Nat.zero_add]
    have hwc : IntKind.wrap .i64 ((a0.Arcs.getD i dSArc).Cap + a4) = (a0.Arcs.getD i dSArc).Cap + a4 := Go.IntWalk.i64_in _ (by omega)
    rw [guard_pos (by omega)]
    simp only [hwc]
    by_cases hbig : 1099511627776 < (a0.Arcs.getD i dSArc).Cap + a4
    · rw [decide_eq_true hbig]; rfl
    rw [decide_eq_false hbig, cond_false, guard_pos (by omega), guard_pos (by omega), guard_pos (by omega)]
    obtain ⟨A1, hA1⟩ : ∃ A1, A1 = a0.Arcs.set i (SArc.mk (a0.Arcs.getD i dSArc).From (a0.Arcs.getD i dSArc).To ((a0.Arcs.getD i dSArc).Cap + a4)) := ⟨_, rfl⟩
    rw [← hA1]
    have m1 : A1.length = a0.Arcs.length := by rw [hA1, List.length_set]
    have g1 : ∀ j, j < a0.Arcs.length → A1.getD j dSArc = if j = i then SArc.mk (a0.Arcs.getD i dSArc).From (a0.Arcs.getD i dSArc).To ((a0.Arcs.getD i dSArc).Cap + a4) else a0.Arcs.getD j dSArc := by
      intro j hj
      rw [hA1, getD_set]
      by_cases h : j = i
      · rw [if_pos ⟨h, hil⟩, if_pos h]
      · rw [if_neg (fun hh => h hh.1), if_neg h]
    obtain ⟨k1, v1⟩ := good_of FF FF_ge (SNet.mk a0.Nodes A1) N hN.nodes htwo hmost (by show A1.length ≤ 2048; omega) (fun j hj => by
      have hj' : j < a0.Arcs.length := by rw [← m1]; exact hj
      have := hN.arc hj'
      show okArc (SNet.mk a0.Nodes A1) (A1.getD j dSArc)
      rw [g1 j hj']
      unfold okArc at this ⊢
      split
      · simp only; omega
      · exact this)
    obtain ⟨l1, R1, ll1, cl1, x1, x2, x3, x4, x5, x6, x7⟩ := max_cut FF FF_ge _ N k1 s t hs ht hst (v1 s t hs ht hst)
    have cap1 : ∀ X : Nat → Bool, cap A1 X = cap a0.Arcs X + (if X (aF a0.Arcs i) = true ∧ X (aT a0.Arcs i) = false then a4 else 0) := by
      intro X
      unfold cap
      rw [m1]
      have e1 : ∀ j, j < a0.Arcs.length → aF A1 j = aF a0.Arcs j := fun j hj => by unfold aF; rw [g1 j hj]; split <;> simp_all
      have e2 : ∀ j, j < a0.Arcs.length → aT A1 j = aT a0.Arcs j := fun j hj => by unfold aT; rw [g1 j hj]; split <;> simp_all
      have := S_upd (fun i => if X (aF a0.Arcs i) = true ∧ X (aT a0.Arcs i) = false then aC a0.Arcs i else 0) (fun i => if X (aF A1 i) = true ∧ X (aT A1 i) = false then aC A1 i else 0) i a0.Arcs.length (fun j hj hji => by
        show (if X (aF A1 j) = true ∧ X (aT A1 j) = false then aC A1 j else 0) = _
        rw [e1 j hj, e2 j hj]
        have e3 : aC A1 j = aC a0.Arcs j := by unfold aC; rw [g1 j hj, if_neg hji]
        rw [e3])
      rw [this, if_pos hil]
      rw [e1 i hil, e2 i hil]
      have e3 : aC A1 i = aC a0.Arcs i + a4 := by unfold aC; rw [g1 i hil, if_pos rfl]
      rw [e3]
      split <;> omega
    have q1 : out a0.Arcs (lf ll) s ≤ out A1 l1 s + 0 := val_le hA hs h5 k1.net hs x3 R1 x3.least.src x3.snk 0 (by
      have := cap1 R1
      show _ ≤ cap A1 R1 + 0
      rw [this]; split <;> omega)
    have q2 : out A1 l1 s ≤ out a0.Arcs (lf ll) s + a4 := val_le k1.net hs x3 hA hs h5 R h5.least.src h5.snk a4 (by
      show cap A1 R ≤ _
      rw [cap1 R]; split <;> omega)
    have hob := out_le a0.Arcs (lf ll) s (fun i hi => ⟨(h5.flow.bd i hi).1, Int.le_trans (h5.flow.bd i hi).2 (hA.c i hi).2⟩)
    rw [x1, Option.bind_some]
    have q3 : out (SNet.mk a0.Nodes A1).Arcs l1 s = out A1 l1 s := rfl
    simp only
    rw [q3, decide_eq_true (show out a0.Arcs (lf ll) s ≤ out A1 l1 s by omega), Go.IntWalk.i64_in _ (show -9223372036854775808 ≤ out A1 l1 s - out a0.Arcs (lf ll) s ∧ out A1 l1 s - out a0.Arcs (lf ll) s ≤ 9223372036854775807 by omega), decide_eq_true (show out A1 l1 s - out a0.Arcs (lf ll) s ≤ a4 by omega)]
    rfl
end Go.Proofs.Ytbepoingholchaa.M
