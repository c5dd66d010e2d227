/- The plain law of FlowBounds: no cut is less than the value, and the least cut lies in all others. -/
import Derived.Test.YtbepoingholchaaPlainF
namespace Go.Proofs.Ytbepoingholchaa.M
open Go Go.Proofs.Ytbepoingholchaa.E Go.Proofs.Ytbepoingholchaa.W
set_option linter.unusedVariables false
set_option linter.unusedSimpArgs false

theorem bounds_c (n : SNet) (N : Nat) (hN : GoodNet n N) (c : Int × List Int × Int) (d : List Bool × Int) (o : List Bool) (ho : o.length = N) (hd : d.1.length = N) (k0 : Int) (hle : c.1 ≤ k0) (hk0 : k0 = c.1 → ∀ v, v < N → d.1.getD v false = true → o.getD v false = true) :
    ∀ (k i : Nat), i ≤ N → N < k + i → chargenetlaw09_FlowBounds_l41 FF n c d o k0 k (i : Int) = some true
  | 0, i, h1, h2 => by omega
  | k + 1, i, h1, h2 => by
    have hmost := hN.most
    simp only [chargenetlaw09_FlowBounds_l41, chargenetlaw09_FlowBounds_b41, chargenetlaw09_FlowBounds_p25, chargenetlaw09_FlowBounds_p43]
    by_cases hi : i < N
    · have ih := bounds_c n N hN c d o ho hd k0 hle hk0 k (i + 1) (by omega) (by omega)
      rw [decide_eq_true (by rw [hN.nodes]; omega), cond_true, wsucc i (by omega), ih, guard_pos (by omega), guard_pos (by omega), Int.toNat_natCast]
      by_cases he : k0 = c.1
      · rw [decide_eq_true he, cond_true]
        cases b1 : d.1.getD i false with
        | false => rfl
        | true => rw [hk0 he i hi b1]; rfl
      · rw [decide_eq_false he]; rfl
    · rw [decide_eq_false (by rw [hN.nodes]; omega), cond_false, decide_eq_true hle, awake_ok]; rfl

theorem bounds_l (n : SNet) (N : Nat) (hN : GoodNet n N) (s t : Nat) (hs : s < N) (ht : t < N) (hst : s ≠ t) (x : Int) (c : Int × List Int × Int) (d : List Bool × Int) (hd : d.1.length = N) (l : Nat → Int) (R : Nat → Bool) (hg : Great n.Arcs N s t l R) (hc : c.1 = out n.Arcs l s) (hdR : ∀ v, v < N → d.1.getD v false = R v) :
    ∀ (k i : Nat) (o : List Bool), i ≤ N → N < k + i → o.length = N → (s < i → o.getD s false = true) → (t < i → o.getD t false = false) → chargenetlaw09_FlowBounds_l70 FF n (s : Int) (t : Int) x c d k (i : Int) o = some true
  | 0, i, o, h1, h2, _, _, _ => by omega
  | k + 1, i, o, h1, h2, ho, hos, hot => by
    have hmost := hN.most
    simp only [chargenetlaw09_FlowBounds_l70, chargenetlaw09_FlowBounds_b70]
    by_cases hi : i < N
    · have ih : ∀ b : Bool, (i = s → b = true) → (i = t → b = false) → chargenetlaw09_FlowBounds_p73 (i : Int) (fun i_59 o1_60 => chargenetlaw09_FlowBounds_l70 FF n (s : Int) (t : Int) x c d k i_59 o1_60) (o.set i b) = some true := by
        intro b hb1 hb2
        unfold chargenetlaw09_FlowBounds_p73
        rw [wsucc i (by omega)]
        refine bounds_l n N hN s t hs ht hst x c d hd l R hg hc hdR k (i + 1) _ (by omega) (by omega) (by simpa using ho) (fun h => ?_) (fun h => ?_)
        · rw [getD_set]; split
          · rename_i hh; exact hb1 hh.1.symm
          · rename_i hh; exact hos (by omega)
        · rw [getD_set]; split
          · rename_i hh; exact hb2 hh.1.symm
          · rename_i hh; exact hot (by omega)
      rw [decide_eq_true (by rw [hN.nodes]; omega), cond_true, Go.IntWalk.u64_in _ (by omega), Int.toNat_natCast]
      by_cases c1 : i = s
      · rw [decide_eq_true (by omega), cond_true, guard_pos (by omega)]
        exact ih true (fun _ => rfl) (fun h => by omega)
      · rw [decide_eq_false (by omega), cond_false]
        by_cases c2 : i = t
        · rw [decide_eq_true (by omega), Bool.not_true, cond_false, guard_pos (by omega)]
          exact ih false (fun h => absurd h c1) (fun _ => rfl)
        · rw [decide_eq_false (by omega), Bool.not_false, cond_true, guard_pos (by omega), guard_pos (by omega)]
          exact ih _ (fun h => absurd h c1) (fun h => absurd h c2)
    · rw [decide_eq_false (by rw [hN.nodes]; omega), cond_false]
      unfold chargenetlaw09_FlowBounds_p49
      rw [cap_eq FF FF_ge hN o ho, Option.bind_some]
      have h3 : bset o s = true := hos (by omega)
      have h4 : bset o t = false := hot (by omega)
      have h5 := val_le_cap hN.net hg.flow hs h3 h4
      exact bounds_c n N hN c d o ho hd _ (by rw [hc]; exact h5) (fun he v hv hR => hg.sub hN.net hs h3 h4 (by rw [he, hc]) v hv (by rw [← hdR v hv]; exact hR)) FF 0 (by omega) (by have := FF_ge; omega)

theorem plain_chargenetlaw09_FlowBounds (a0 : SNet) (a1 : Int) (a2 : Int) (a3 : Int) (w0 : okSNet a0) (w1 : (Lit.int .i64 a1).wf = true) (w2 : (Lit.int .i64 a2).wf = true) (w3 : (Lit.int .u64 a3).wf = true) : ∃ F, chargenetlaw09_FlowBounds F a0 a1 a2 a3 = some true := by
  refine ⟨FF, ?_⟩
  unfold chargenetlaw09_FlowBounds
  rw [awake_ok, small_eq]
  rcases cases_net FF FF_ge a0 a1 a2 with ⟨e, he, h1, h2, h3, h4⟩ | ⟨N, s, t, R, ll, cl, hN, rfl, rfl, hs, ht, hst, h1, h2, h3, h4, h5, h6, h7, h8⟩
  · rw [h2]
    simp only [Option.bind_some]
    rw [decide_eq_false he]
    cases decide (a0.Nodes ≤ 64 ∧ (a0.Arcs.length : Int) ≤ 200) <;> rfl
  · have hmost := hN.most
    have := bounds_l a0 N hN s t hs ht hst a3 (out a0.Arcs (lf ll) s, ll, 0) (cl, 0) h7 (lf ll) R h5 rfl h8 FF 0 (List.replicate N false) (by omega) (by have := FF_ge; omega) (by simp) (fun h => by omega) (fun h => by omega)
    rw [h2, h3, h4]
    simp only [Option.bind_some]
    rw [h7, hN.nodes, guard_pos (by omega), Int.toNat_natCast]
    simp only [Int.ofNat_zero] at this
    have this' : chargenetlaw09_FlowBounds_l70 FF a0 (s : Int) (t : Int) a3 (out a0.Arcs (lf ll) s, ll, 0) (cl, 0) FF 0 (List.replicate N false) = some true := this
    rw [this']
    cases decide ((N : Int) ≤ 64 ∧ (a0.Arcs.length : Int) ≤ 200) <;> simp
end Go.Proofs.Ytbepoingholchaa.M
