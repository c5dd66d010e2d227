/- The plain law of PlansShare: demands that can use one slot share its energy, and the schedule keeps all limits. -/
import Derived.Test.YtmiikbfacgmopaaPlainT
namespace Go.Proofs.Ytmiikbfacgmopaa.M
open Go Go.Proofs Go.Proofs.Ytmiikbfacgmopaa.E Go.Proofs.Ytmiikbfacgmopaa.W
set_option linter.unusedVariables false
set_option linter.unusedSimpArgs false
theorem tail_ok {w m : Int} {e : List Int} (h : In w m e) (a : List Int) (ha : Sh (En (p0 w m e) e.length) (w * m) a) (hb : Box e.length (En (p0 w m e) e.length) a) (r : Int) : chargenettop_PlansShare_p19 FF w m (demL e m e.length) (a, r) = some true := by
 have hp := p0_VP h
 have hln := p0_len (w := w) (m := m) (e := e)
 obtain ⟨q, v1, v2, v3⟩ := validP_eq FF FF_ge (p0 w m e)
 have hq : q = 0 := v3.2 hp
 rw [hq] at v1 v2
 obtain ⟨hl, hen⟩ := box_en hp (l := a) (by rw [hln]; exact hb)
 obtain ⟨l, r', s1, s2⟩ := psched_eq hp FF FF_ge v1 v2 a
 obtain ⟨g, g1, g2, g3, g4⟩ := energies_eq hp FF FF_ge v1 v2 a
 have hg : g = 0 := g4.2 ⟨hl, hen⟩
 have hfit : Fit (p0 w m e) (ev a) := (p0_fit h (ev a) (fun i hi => (hen i (by omega)).1)).2 (by rw [← hln, ← hl, S_sl]; exact ha.sum)
 unfold chargenettop_PlansShare_p19
 show (plan_Schedule FF (p0 w m e) a).bind (fun c_14 => bif decide (c_14.2 = 0) then ((plan_Check FF (p0 w m e) a c_14.1).bind fun c_17 => some c_17) else some false) = some true
 rw [s1, Option.bind_some]
 rcases s2 with ⟨_, _, s3⟩ | ⟨_, _, _, _, _, s6⟩ | ⟨rfl, _, _, _, _, s7⟩
 ·rw [g2, hg] at s3; cases s3
 ·exact absurd hfit s6
 ·obtain ⟨b, b1, b2⟩ := pcheck_eq hp FF FF_ge v1 a l
  have : b = true := b2.2 s7
  simp only [decide_true, cond_true]
  rw [b1, this]
  rfl
theorem same_l {w m : Int} (o : List SDemand) (c : List Int × Int) (a : List Int) (r : Int) (h8 : a.length ≤ 8) (ht : chargenettop_PlansShare_p19 FF w m o (a, r) = some true) (r2 : Int) : ∀ (k i : Nat), i ≤ a.length → a.length < k + i → chargenettop_PlansShare_l29 FF w m o (a, r) (a, r2) k (i : Int) = some true
 | 0, i, h1, h2 => by omega
 | k + 1, i, h1, h2 => by
  simp only [chargenettop_PlansShare_l29, chargenettop_PlansShare_b29]
  by_cases hi : i < a.length
  ·rw [decide_eq_true (show (i : Int) < (a.length : Int) by omega), cond_true, guard_pos (show (0 : Int) ≤ (i : Int) ∧ (i : Int) < (a.length : Int) by omega), guard_pos (show (0 : Int) ≤ (i : Int) ∧ (i : Int) < (a.length : Int) by omega), wsucc i (by omega)]
   simp only [decide_true, Bool.not_true, cond_false]
   exact same_l o c a r h8 ht r2 k (i + 1) (by omega) (by omega)
  ·rw [decide_eq_false (show ¬ (i : Int) < (a.length : Int) by omega), cond_false]
   exact ht
theorem dems_l {w m : Int} {e : List Int} (hw : 0 ≤ w ∧ w ≤ 100000) (hm : 1 ≤ m ∧ m ≤ 1440) (h8 : e.length ≤ 8) : ∀ (k i : Nat), i ≤ e.length → e.length < k + i → (∀ j, j < i → 0 ≤ e.getD j 0 ∧ e.getD j 0 ≤ 1073741824) →
  chargenettop_PlansShare_l47 FF w m e k (i : Int) (demL e m i) = some true
 | 0, i, h1, h2, _ => by omega
 | k + 1, i, h1, h2, hg => by
  simp only [chargenettop_PlansShare_l47, chargenettop_PlansShare_b47]
  by_cases hi : i < e.length
  ·rw [decide_eq_true (show (i : Int) < (e.length : Int) by omega), cond_true, guard_pos (show (0 : Int) ≤ (i : Int) ∧ (i : Int) < (e.length : Int) by omega), Int.toNat_natCast]
   by_cases a1 : e.getD i 0 < 0
   ·rw [decide_eq_true a1]; rfl
   by_cases a2 : 1073741824 < e.getD i 0
   ·rw [decide_eq_false a1, decide_eq_true a2]; rfl
   rw [decide_eq_false a1, decide_eq_false a2, cond_false, cond_false, guard_pos (by simp only [List.length_cons, List.length_nil, demL_len]; omega), wsucc i (by omega)]
   exact dems_l hw hm h8 k (i + 1) (by omega) (by omega) (fun j hj => by
    by_cases hji : j = i
    ·subst hji; omega
    ·exact hg j (by omega))
  ·have hin : i = e.length := by omega
   subst hin
   have h : In w m e := ⟨hw, hm, h8, hg⟩
   have hp := p0_VP h
   have hwm := wm_bd h
   obtain ⟨q, v1, v2, v3⟩ := validP_eq FF FF_ge (p0 w m e)
   have hq : q = 0 := v3.2 hp
   rw [hq] at v1 v2
   obtain ⟨a, a1, a2, a3⟩ := p0_fair h FF FF_ge v1
   have hEn : En (p0 w m e) e.length = e := by rw [En_p0 e.length (Nat.le_refl _), List.take_length]
   have hc : Caps e.length e := ⟨rfl, by omega, fun i hi => by have := hg i hi; omega⟩
   obtain ⟨b, b1, b2⟩ := share_eq FF (by decide) hc (w * m) ⟨hwm.1, by omega⟩
   have hab : a = b := by
    rw [hEn] at a2
    exact a2.unique b2
   subst hab
   rw [decide_eq_false (show ¬ ((e.length : Int) < (e.length : Int)) by omega), cond_false]
   unfold chargenettop_PlansShare_p34
   show (plan_Fair FF (p0 w m e)).bind _ = some true
   rw [a1, Option.bind_some, Go.IntWalk.i64_in (w * m) (by omega), b1, Option.bind_some]
   simp only [decide_true, Bool.not_true, cond_false]
   have := same_l (w := w) (m := m) (demL e m e.length) (a, 0) a 0 (by have := a3.len; omega) (tail_ok h a a2 a3 0) 0 FF 0 (by omega) (by have := a3.len; have := FF_ge; omega)
   exact this
theorem plain_chargenettop_PlansShare (a0 : Int) (a1 : Int) (a2 : List Int) (w0 : (Lit.int .i64 a0).wf = true) (w1 : (Lit.int .i64 a1).wf = true) (w2 : okVec (fun x : Int => (Lit.int .i64 x).wf = true) a2) : ∃ F, chargenettop_PlansShare F a0 a1 a2 = some true := by
 refine ⟨FF, ?_⟩
 unfold chargenettop_PlansShare
 by_cases c1 : 8 < (a2.length : Int)
 ·rw [decide_eq_true c1]; rfl
 by_cases c2 : a0 < 0
 ·rw [decide_eq_false c1, decide_eq_true c2]; rfl
 by_cases c3 : 100000 < a0
 ·rw [decide_eq_false c1, decide_eq_false c2, decide_eq_true c3]; rfl
 by_cases c4 : a1 < 1
 ·rw [decide_eq_false c1, decide_eq_false c2, decide_eq_false c3, decide_eq_true c4]; rfl
 by_cases c5 : 1440 < a1
 ·rw [decide_eq_false c1, decide_eq_false c2, decide_eq_false c3, decide_eq_false c4, decide_eq_true c5]; rfl
 rw [decide_eq_false c1, decide_eq_false c2, decide_eq_false c3, decide_eq_false c4, decide_eq_false c5]
 simp only [cond_false]
 exact dems_l ⟨by omega, by omega⟩ ⟨by omega, by omega⟩ (by omega) FF 0 (by omega) (by have := FF_ge; omega) (fun j hj => by omega)
end Go.Proofs.Ytmiikbfacgmopaa.M
