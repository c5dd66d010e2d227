/- Plain laws of chapter 18: the reference's Check. -/
import Derived.Test.YtfefnffdocmlmaaPlainG
namespace Go.Proofs.Ytfefnffdocmlmaa.M
open Go Go.Proofs Go.Proofs.Ytfefnffdocmlmaa.E Go.Proofs.Ytfefnffdocmlmaa.W
set_option linter.unusedVariables false
set_option linter.unusedSimpArgs false
theorem rrow_l {p : SProblem} (h : VP p) (F : Nat) (e : List Int) (l : List (List Int)) (nd : Int) (i : Nat) (hi : i < p.Demands.length) (hlen : (l.getD i []).length = p.Caps.length) (K : Int → Int → Option Bool) : ∀ (k t : Nat) (tot : Int), t ≤ p.Caps.length → p.Caps.length < k + t → 0 ≤ tot → tot ≤ 4529848320 * t →
  (chargenetref18_Check_l478 F p e l nd (i : Int) K k tot (t : Int) = some false ∧ ∃ u, t ≤ u ∧ u < p.Caps.length ∧ ¬ cellOk p l i u) ∨
  ((∀ u, t ≤ u → u < p.Caps.length → cellOk p l i u) ∧ chargenetref18_Check_l478 F p e l nd (i : Int) K k tot (t : Int) = chargenetref18_Check_p456 e nd (i : Int) K (tot + (S (fun u => X l i u) p.Caps.length - S (fun u => X l i u) t)))
 | 0, t, tot, h1, h2, _, _ => by omega
 | k + 1, t, tot, h1, h2, ht0, ht1 => by
  simp only [chargenetref18_Check_l478, chargenetref18_Check_b478]
  rw [Int.toNat_natCast, Int.toNat_natCast]
  have hnc := h.nc
  have hnd := h.nd
  have hlen' : ((l.getD i []).length : Int) = (p.Caps.length : Int) := by omega
  by_cases ht : t < p.Caps.length
  ·have hml := h.ml hi
   have hXl : (l.getD i []).getD t 0 = X l i t := rfl
   have hD : p.Demands.getD i dSDemand = D p i := rfl
   rw [decide_eq_true (show (t : Int) < ((l.getD i []).length : Int) by omega), cond_true, guard_pos (show (0 : Int) ≤ (t : Int) ∧ (t : Int) < ((l.getD i []).length : Int) by omega), hXl, hD, Go.IntWalk.i64_in ((D p i).Max * p.Length) (by omega)]
   by_cases a1 : X l i t < 0
   ·rw [decide_eq_true a1]; exact .inl ⟨rfl, t, Nat.le_refl _, ht, fun hc => by have := hc.1; omega⟩
   rw [decide_eq_false a1, cond_false]
   by_cases a2 : (D p i).Max * p.Length < X l i t
   ·rw [decide_eq_true a2]; exact .inl ⟨rfl, t, Nat.le_refl _, ht, fun hc => by have := hc.2.1; omega⟩
   rw [decide_eq_false a2, cond_false, (usable_eq h F (D p i) ht).2, Option.bind_some]
   have hok : ∀ P : Option Bool, (0 < X l i t → us p (D p i) t = true) → (bif decide (0 < X l i t) then (bif !us p (D p i) t then some false else P) else P) = P := fun P hP => by
    by_cases a3 : 0 < X l i t
    ·rw [decide_eq_true a3, cond_true, hP a3]; rfl
    ·rw [decide_eq_false a3]; rfl
   by_cases a3 : 0 < X l i t → us p (D p i) t = true
   ·have hc : cellOk p l i t := ⟨by omega, by omega, a3⟩
    have hcb := cell_bd h hi hc
    rw [hok _ a3]
    unfold chargenetref18_Check_p481
    rw [Int.toNat_natCast, Int.toNat_natCast, hXl, Go.IntWalk.i64_in (tot + X l i t) (by omega), wsucc t (by omega)]
    rcases rrow_l h F e l nd i hi hlen K k (t + 1) (tot + X l i t) (by omega) (by omega) (by omega) (by omega) with ⟨r1, u, r2, r3, r4⟩ | ⟨r1, r2⟩
    ·exact .inl ⟨r1, u, by omega, r3, r4⟩
    ·refine .inr ⟨fun u s1 s2 => ?_, ?_⟩
     ·by_cases hut : u = t
      ·subst hut; exact hc
      ·exact r1 u (by omega) s2
     ·refine r2.trans ?_
      rw [S_succ]
      congr 1
      omega
   ·have a4 : 0 < X l i t := Classical.byContradiction fun hn => a3 (fun hh => absurd hh hn)
    have a5 : us p (D p i) t = false := by
     cases hq : us p (D p i) t with
     | false => rfl
     | true => exact absurd (fun _ => hq) a3
    rw [decide_eq_true a4, a5]
    exact .inl ⟨rfl, t, Nat.le_refl _, ht, fun hc => a3 hc.2.2⟩
  ·have htn : t = p.Caps.length := by omega
   subst htn
   rw [decide_eq_false (show ¬ ((p.Caps.length : Int) < ((l.getD i []).length : Int)) by omega), cond_false]
   exact .inr ⟨fun u g1 g2 => by omega, by rw [Int.sub_self, Int.add_zero]⟩
theorem rsum_l {p : SProblem} (h : VP p) (F : Nat) (hF : 100000000000000000 ≤ F) (l : List (List Int)) (hl : l.length = p.Demands.length) (u g : Nat) (hu : u < p.Caps.length) (hlen : ∀ j, j < p.Demands.length → (l.getD j []).length = p.Caps.length) (hc : ∀ j, j < p.Demands.length → cellOk p l j u) (L : List Int) (n : Int) (K : List Int → Int → Int → Option Bool) : ∀ (k i : Nat), i ≤ p.Demands.length → p.Demands.length < k + i →
  chargenetref18_Check_l353 F p l (u : Int) L n (g : Int) K k (S (fun j => con p l u g j) i) (i : Int) = chargenetref18_Check_p332 p L n (g : Int) K (S (fun j => con p l u g j) p.Demands.length)
 | 0, i, h1, h2 => by omega
 | k + 1, i, h1, h2 => by
  have hnd := h.nd
  simp only [chargenetref18_Check_l353, chargenetref18_Check_b353]
  rw [Int.toNat_natCast, Int.toNat_natCast]
  by_cases hi : i < p.Demands.length
  ·have hdem := h.dem i hi
   unfold okDem at hdem
   have hlb := load_bd (l := l) (u := u) h g i (by omega) (fun j hj => hc j (by omega))
   have hcb := con_bd (l := l) (u := u) h g hi (hc i hi)
   rw [decide_eq_true (show (i : Int) < (p.Demands.length : Int) by omega), cond_true, guard_pos (show (0 : Int) ≤ (i : Int) ∧ (i : Int) < (p.Demands.length : Int) by omega), below_eq h F hF g (by omega) (by omega), Option.bind_some,
    guard_pos (show (0 : Int) ≤ (i : Int) ∧ (i : Int) < (l.length : Int) by omega), guard_pos (show (0 : Int) ≤ (u : Int) ∧ (u : Int) < ((l.getD i []).length : Int) by rw [hlen i hi]; omega)]
   unfold chargenetref18_Check_p356
   have ih := rsum_l h F hF l hl u g hu hlen hc L n K k (i + 1) (by omega) (by omega)
   rw [S_succ] at ih
   rw [wsucc i (by omega), show (l.getD i []).getD u 0 = X l i u from rfl]
   unfold con at hcb ih ⊢
   unfold con at hlb
   rw [show p.Demands.getD i dSDemand = D p i from rfl]
   cases hb : B p (D p i).Feeder g with
   | true =>
    rw [hb] at ih hcb
    simp only [cond_true]
    simp only [bI, cond_true] at ih hcb hlb ⊢
    rw [Go.IntWalk.i64_in _ (by omega)]
    exact ih
   | false =>
    rw [hb] at ih
    simp only [cond_false]
    simp only [bI, cond_false, Int.add_zero] at ih ⊢
    exact ih
  ·have hin : i = p.Demands.length := by omega
   subst hin
   rw [decide_eq_false (show ¬ ((p.Demands.length : Int) < (p.Demands.length : Int)) by omega), cond_false]
theorem rload_l {p : SProblem} (h : VP p) (F : Nat) (hF : 100000000000000000 ≤ F) (l : List (List Int)) (hl : l.length = p.Demands.length) (u : Nat) (hu : u < p.Caps.length) (hlen : ∀ j, j < p.Demands.length → (l.getD j []).length = p.Caps.length) (hc : ∀ j, j < p.Demands.length → cellOk p l j u) (nc : Int) (K : Int → Int → Option Bool) : ∀ (k g : Nat), g ≤ p.Parents.length → p.Parents.length < k + g →
  (chargenetref18_Check_l326 F p l nc (u : Int) K k (p.Caps.getD u []) ((p.Caps.getD u []).length : Int) (g : Int) = some false ∧ ∃ f, g ≤ f ∧ f < p.Parents.length ∧ ¬ (S (fun i => con p l u f i) p.Demands.length ≤ (p.Caps.getD u []).getD f 0 * p.Length)) ∨
  (chargenetref18_Check_l326 F p l nc (u : Int) K k (p.Caps.getD u []) ((p.Caps.getD u []).length : Int) (g : Int) = chargenetref18_Check_p247 nc (u : Int) K ∧ ∀ f, g ≤ f → f < p.Parents.length → S (fun i => con p l u f i) p.Demands.length ≤ (p.Caps.getD u []).getD f 0 * p.Length)
 | 0, g, h1, h2 => by omega
 | k + 1, g, h1, h2 => by
  have hcl := h.caplen u hu
  have hnp := h.np
  have hnd := h.nd
  simp only [chargenetref18_Check_l326, chargenetref18_Check_b326]
  by_cases hg : g < p.Parents.length
  ·have hcp := h.cl hu hg
   have hs := rsum_l h F hF l hl u g hu hlen hc (p.Caps.getD u []) ((p.Caps.getD u []).length : Int) (fun t99_287 t100_288 t101_289 => chargenetref18_Check_l326 F p l nc (u : Int) K k t99_287 t100_288 t101_289) F 0 (by omega) (by omega)
   rw [show S (fun j => con p l u g j) 0 = 0 from rfl, show ((0 : Nat) : Int) = 0 from rfl] at hs
   rw [decide_eq_true (show (g : Int) < ((p.Caps.getD u []).length : Int) by omega), cond_true, guard_pos (show (0 : Int) ≤ (g : Int) ∧ (g : Int) < ((p.Caps.getD u []).length : Int) by omega), hs]
   unfold chargenetref18_Check_p332
   rw [Int.toNat_natCast, Go.IntWalk.i64_in ((p.Caps.getD u []).getD g 0 * p.Length) (by omega)]
   by_cases a : (p.Caps.getD u []).getD g 0 * p.Length < S (fun j => con p l u g j) p.Demands.length
   ·rw [decide_eq_true a]; exact .inl ⟨rfl, g, Nat.le_refl _, hg, by omega⟩
   rw [decide_eq_false a, cond_false]
   unfold chargenetref18_Check_p328
   rw [wsucc g (by omega)]
   rcases rload_l h F hF l hl u hu hlen hc nc K k (g + 1) (by omega) (by omega) with ⟨r1, f, r2, r3, r4⟩ | ⟨r1, r2⟩
   ·exact .inl ⟨r1, f, by omega, r3, r4⟩
   ·refine .inr ⟨r1, fun f s1 s2 => ?_⟩
    by_cases hf : f = g
    ·subst hf; omega
    ·exact r2 f (by omega) s2
  ·rw [decide_eq_false (show ¬ (g : Int) < ((p.Caps.getD u []).length : Int) by omega)]
   exact .inr ⟨rfl, fun f s1 s2 => by omega⟩
theorem rloads_l {p : SProblem} (h : VP p) (F : Nat) (hF : 100000000000000000 ≤ F) (l : List (List Int)) (hl : l.length = p.Demands.length) (hlen : ∀ j, j < p.Demands.length → (l.getD j []).length = p.Caps.length) (hc : ∀ j, j < p.Demands.length → ∀ u, u < p.Caps.length → cellOk p l j u) : ∀ (k u : Nat), u ≤ p.Caps.length → p.Caps.length < k + u →
  ∃ b, chargenetref18_Check_l245 F p l k (p.Caps.length : Int) (u : Int) = some b ∧ (b = true ↔ ∀ v, u ≤ v → v < p.Caps.length → ∀ f, f < p.Parents.length → S (fun i => con p l v f i) p.Demands.length ≤ (p.Caps.getD v []).getD f 0 * p.Length)
 | 0, u, h1, h2 => by omega
 | k + 1, u, h1, h2 => by
  have hnc := h.nc
  have hnp := h.np
  simp only [chargenetref18_Check_l245, chargenetref18_Check_b245]
  rw [Int.toNat_natCast]
  by_cases hu : u < p.Caps.length
  ·rw [decide_eq_true (show (u : Int) < (p.Caps.length : Int) by omega), cond_true, guard_pos (show (0 : Int) ≤ (u : Int) ∧ (u : Int) < (p.Caps.length : Int) by omega)]
   rcases rload_l h F hF l hl u hu hlen (fun j hj => hc j hj u hu) (p.Caps.length : Int) (fun t93_126 t94_127 => chargenetref18_Check_l245 F p l k t93_126 t94_127) F 0 (by omega) (by omega) with ⟨r1, f, r2, r3, r4⟩ | ⟨r1, r2⟩
   ·exact ⟨false, r1, ⟨fun hh => absurd hh (by decide), fun hh => absurd (hh u (Nat.le_refl _) hu f r3) r4⟩⟩
   ·obtain ⟨b, b1, b2⟩ := rloads_l h F hF l hl hlen hc k (u + 1) (by omega) (by omega)
    refine ⟨b, ?_, b2.trans ⟨fun hh v s1 s2 f s3 => ?_, fun hh v s1 s2 f s3 => hh v (by omega) s2 f s3⟩⟩
    ·refine r1.trans ?_
     unfold chargenetref18_Check_p247
     rw [wsucc u (by omega)]
     exact b1
    ·by_cases hv : v = u
     ·subst hv; exact r2 f (by omega) s3
     ·exact hh v (by omega) s2 f s3
  ·rw [decide_eq_false (show ¬ (u : Int) < (p.Caps.length : Int) by omega)]
   exact ⟨true, rfl, ⟨fun _ v s1 s2 => by omega, fun _ => rfl⟩⟩
theorem rrows_l {p : SProblem} (h : VP p) (F : Nat) (hF : 100000000000000000 ≤ F) (e : List Int) (he : e.length = p.Demands.length) (l : List (List Int)) (hl : l.length = p.Demands.length) : ∀ (k i : Nat), i ≤ p.Demands.length → p.Demands.length < k + i → (∀ j, j < i → rowOk p e l j) →
  ∃ b, chargenetref18_Check_l447 F p e l k (p.Demands.length : Int) (i : Int) = some b ∧ (b = true ↔ (∀ j, i ≤ j → j < p.Demands.length → rowOk p e l j) ∧ loadOk p l)
 | 0, i, h1, h2, _ => by omega
 | k + 1, i, h1, h2, hp => by
  have hnd := h.nd
  have hnc := h.nc
  simp only [chargenetref18_Check_l447, chargenetref18_Check_b447]
  rw [Int.toNat_natCast]
  by_cases hi : i < p.Demands.length
  ·rw [decide_eq_true (show (i : Int) < (p.Demands.length : Int) by omega), cond_true, guard_pos (show (0 : Int) ≤ (i : Int) ∧ (i : Int) < (p.Demands.length : Int) by omega), guard_pos (show (0 : Int) ≤ (i : Int) ∧ (i : Int) < (l.length : Int) by omega), guard_pos (show (0 : Int) ≤ (i : Int) ∧ (i : Int) < (l.length : Int) by omega)]
   by_cases a : ((l.getD i []).length : Int) = (p.Caps.length : Int)
   ·rw [decide_eq_true a, Bool.not_true, cond_false]
    have a' : (l.getD i []).length = p.Caps.length := by omega
    rcases rrow_l h F e l (p.Demands.length : Int) i hi a' (fun t33_405 t34_406 => chargenetref18_Check_l447 F p e l k t33_405 t34_406) F 0 0 (by omega) (by omega) (by omega) (by omega) with ⟨r1, u, r2, r3, r4⟩ | ⟨r1, r2⟩
    ·exact ⟨false, r1, ⟨fun hh => absurd hh (by decide), fun hh => absurd ((hh.1 i (Nat.le_refl _) hi).2.1 u r3) r4⟩⟩
    ·have hsum : (0 : Int) + (S (fun u => X l i u) p.Caps.length - S (fun u => X l i u) 0) = S (fun u => X l i u) p.Caps.length := by simp [S]
     rw [hsum] at r2
     rw [show ((0 : Nat) : Int) = 0 from rfl] at r2
     rw [r2]
     unfold chargenetref18_Check_p456
     rw [guard_pos (show (0 : Int) ≤ (i : Int) ∧ (i : Int) < (e.length : Int) by omega), Int.toNat_natCast]
     by_cases c : S (fun u => X l i u) p.Caps.length = e.getD i 0
     ·rw [decide_eq_true c, Bool.not_true, cond_false]
      unfold chargenetref18_Check_p449
      rw [wsucc i (by omega)]
      have hrow : rowOk p e l i := ⟨a', fun u hu => r1 u (by omega) hu, c⟩
      obtain ⟨b, b1, b2⟩ := rrows_l h F hF e he l hl k (i + 1) (by omega) (by omega) (fun j hj => by
        by_cases hji : j = i
        ·subst hji; exact hrow
        ·exact hp j (by omega))
      refine ⟨b, b1, b2.trans ⟨fun hh => ⟨fun j s1 s2 => ?_, hh.2⟩, fun hh => ⟨fun j s1 s2 => hh.1 j (by omega) s2, hh.2⟩⟩⟩
      by_cases hji : j = i
      ·subst hji; exact hrow
      ·exact hh.1 j (by omega) s2
     ·rw [decide_eq_false c]
      exact ⟨false, rfl, ⟨fun hh => absurd hh (by decide), fun hh => absurd (hh.1 i (Nat.le_refl _) hi).2.2 c⟩⟩
   ·rw [decide_eq_false a]
    exact ⟨false, rfl, ⟨fun hh => absurd hh (by decide), fun hh => absurd (hh.1 i (Nat.le_refl _) hi).1 (by omega)⟩⟩
  ·have hin : i = p.Demands.length := by omega
   subst hin
   rw [decide_eq_false (show ¬ ((p.Demands.length : Int) < (p.Demands.length : Int)) by omega), cond_false]
   unfold chargenetref18_Check_p363
   obtain ⟨b, b1, b2⟩ := rloads_l h F hF l hl (fun j hj => (hp j hj).1) (fun j hj => (hp j hj).2.1) F 0 (by omega) (by omega)
   exact ⟨b, b1, b2.trans ⟨fun hh => ⟨fun j s1 s2 => by omega, fun u hu g hg => hh u (by omega) hu g hg⟩, fun hh v _ s2 f s3 => hh.2 v s2 f s3⟩⟩
def enOk (e : List Int) : Prop := ∀ j, j < e.length → 0 ≤ e.getD j 0 ∧ e.getD j 0 ≤ 1099511627776
theorem en_l (e : List Int) (he : e.length ≤ 1000) : ∀ (k i : Nat), i ≤ e.length → e.length < k + i →
  ∃ r, plan_check_l15 e k (i : Int) = some r ∧ chargenetref18_energies_l15 e k (i : Int) = some r ∧ (r = 0 ∨ r = 1) ∧ (r = 0 ↔ ∀ j, i ≤ j → j < e.length → 0 ≤ e.getD j 0 ∧ e.getD j 0 ≤ 1099511627776)
 | 0, i, h1, h2 => by omega
 | k + 1, i, h1, h2 => by
  simp only [plan_check_l15, plan_check_b15, chargenetref18_energies_l15, chargenetref18_energies_b15]
  rw [Int.toNat_natCast]
  by_cases hi : i < e.length
  ·rw [decide_eq_true (show (i : Int) < (e.length : Int) by omega), cond_true, cond_true, guard_pos (show (0 : Int) ≤ (i : Int) ∧ (i : Int) < (e.length : Int) by omega), guard_pos (show (0 : Int) ≤ (i : Int) ∧ (i : Int) < (e.length : Int) by omega)]
   by_cases a1 : e.getD i 0 < 0
   ·rw [decide_eq_true a1]; exact ⟨1, rfl, rfl, .inr rfl, ⟨fun hh => absurd hh (by decide), fun hh => by have := hh i (Nat.le_refl _) hi; omega⟩⟩
   by_cases a2 : 1099511627776 < e.getD i 0
   ·rw [decide_eq_false a1, decide_eq_true a2]; exact ⟨1, rfl, rfl, .inr rfl, ⟨fun hh => absurd hh (by decide), fun hh => by have := hh i (Nat.le_refl _) hi; omega⟩⟩
   rw [decide_eq_false a1, decide_eq_false a2, wsucc i (by omega)]
   simp only [cond_false]
   obtain ⟨r, r1, r2, r3, r4⟩ := en_l e he k (i + 1) (by omega) (by omega)
   refine ⟨r, r1, r2, r3, r4.trans ⟨fun hh j s1 s2 => ?_, fun hh j s1 s2 => hh j (by omega) s2⟩⟩
   by_cases hji : j = i
   ·subst hji; omega
   ·exact hh j (by omega) s2
  ·rw [decide_eq_false (show ¬ (i : Int) < (e.length : Int) by omega)]
   exact ⟨0, rfl, rfl, .inl rfl, ⟨fun _ j s1 s2 => by omega, fun _ => rfl⟩⟩
theorem energies_eq {p : SProblem} (h : VP p) (F : Nat) (hF : 100000000000000000 ≤ F) (hv : plan_Valid F p = some 0) (hv2 : chargenetref18_Valid F p = some 0) (e : List Int) :
  ∃ r, plan_check F p e = some r ∧ chargenetref18_energies F p e = some r ∧ (r = 0 ∨ r = 1) ∧ (r = 0 ↔ e.length = p.Demands.length ∧ enOk e) := by
 have hnd := h.nd
 unfold plan_check chargenetref18_energies
 rw [hv, hv2]
 simp only [Option.bind_some, decide_true, Bool.not_true, cond_false]
 by_cases a : (e.length : Int) = (p.Demands.length : Int)
 ·rw [decide_eq_true a, Bool.not_true, cond_false, cond_false]
  obtain ⟨r, r1, r2, r3, r4⟩ := en_l e (by omega) F 0 (by omega) (by omega)
  exact ⟨r, r1, r2, r3, r4.trans ⟨fun hh => ⟨by omega, fun j hj => hh j (by omega) hj⟩, fun hh j _ hj => hh.2 j hj⟩⟩
 ·rw [decide_eq_false a]
  exact ⟨1, rfl, rfl, .inr rfl, ⟨fun hh => absurd hh (by decide), fun hh => absurd hh.1 (by omega)⟩⟩
theorem en_of_plan {p : SProblem} (h : VP p) {e : List Int} {l : List (List Int)} (hp : planOk p e l) : enOk e := fun j hj => by
 have h1 := hp.2.2.1 j (by have := hp.1; omega)
 have h2 := row_bd (l := l) h (by have := hp.1; omega) p.Caps.length h1.2.1
 have h3 := h.nc
 rw [← h1.2.2]
 omega
theorem rcheck_eq {p : SProblem} (h : VP p) (F : Nat) (hF : 100000000000000000 ≤ F) (hv : plan_Valid F p = some 0) (hv2 : chargenetref18_Valid F p = some 0) (e : List Int) (l : List (List Int)) : ∃ b, chargenetref18_Check F p e l = some b ∧ (b = true ↔ planOk p e l) := by
 have hnd := h.nd
 obtain ⟨r, r1, r2, r3, r4⟩ := energies_eq h F hF hv hv2 e
 unfold chargenetref18_Check
 rw [r2, Option.bind_some]
 by_cases a : r = 0
 ·rw [decide_eq_true a, Bool.not_true, cond_false]
  have hen := r4.1 a
  by_cases a2 : (l.length : Int) = (p.Demands.length : Int)
  ·rw [decide_eq_true a2, Bool.not_true, cond_false]
   obtain ⟨b, b1, b2⟩ := rrows_l h F hF e hen.1 l (by omega) F 0 (by omega) (by omega) (fun j hj => by omega)
   exact ⟨b, b1, b2.trans ⟨fun hh => ⟨hen.1, by omega, fun j hj => hh.1 j (by omega) hj, hh.2⟩, fun hh => ⟨fun j _ hj => hh.2.2.1 j hj, hh.2.2.2⟩⟩⟩
  ·rw [decide_eq_false a2]
   exact ⟨false, rfl, ⟨fun hh => absurd hh (by decide), fun hh => absurd hh.2.1 (by omega)⟩⟩
 ·rw [decide_eq_false a]
  exact ⟨false, rfl, ⟨fun hh => absurd hh (by decide), fun hh => absurd (r4.2 ⟨hh.1, en_of_plan h hh⟩) a⟩⟩
theorem checks_eq {p : SProblem} (h : VP p) (F : Nat) (hF : 100000000000000000 ≤ F) (hv : plan_Valid F p = some 0) (hv2 : chargenetref18_Valid F p = some 0) (e : List Int) (l : List (List Int)) : ∃ b, plan_Check F p e l = some b ∧ chargenetref18_Check F p e l = some b ∧ (b = true ↔ planOk p e l) := by
 obtain ⟨b, b1, b2⟩ := pcheck_eq h F hF hv e l
 obtain ⟨c, c1, c2⟩ := rcheck_eq h F hF hv hv2 e l
 have : c = b := by
  have h3 := c2.trans b2.symm
  cases c <;> cases b <;> simp_all
 exact ⟨b, b1, this ▸ c1, b2⟩
theorem small_eq (F : Nat) (hF : 100000000000000000 ≤ F) (p : SProblem) : ∃ b, chargenetlaw18_Small F p = some b ∧ (b = true → VP p ∧ plan_Valid F p = some 0 ∧ chargenetref18_Valid F p = some 0 ∧ p.Demands.length ≤ 6 ∧ p.Caps.length ≤ 12 ∧ p.Parents.length ≤ 4) := by
 obtain ⟨e, h1, h2, h3⟩ := validP_eq F hF p
 unfold chargenetlaw18_Small
 by_cases a1 : (p.Demands.length : Int) ≤ 6
 ·rw [decide_eq_true a1, cond_true]
  by_cases a2 : (p.Caps.length : Int) ≤ 12
  ·rw [decide_eq_true a2, cond_true]
   by_cases a3 : (p.Parents.length : Int) ≤ 4
   ·rw [decide_eq_true a3, cond_true, h2, Option.bind_some]
    refine ⟨decide (e = 0), rfl, fun h => ?_⟩
    have he : e = 0 := of_decide_eq_true h
    exact ⟨h3 he, by rw [h1, he], by rw [he], by omega, by omega, by omega⟩
   ·rw [decide_eq_false a3]; exact ⟨false, rfl, fun h => absurd h (by decide)⟩
  ·rw [decide_eq_false a2]; exact ⟨false, rfl, fun h => absurd h (by decide)⟩
 ·rw [decide_eq_false a1]; exact ⟨false, rfl, fun h => absurd h (by decide)⟩
end Go.Proofs.Ytfefnffdocmlmaa.M
