/- Plain laws of chapter 18: plans that keep all limits (Check, and the reference's Check). -/
import Derived.Test.YtmiikbfacgmopaaPlainF
namespace Go.Proofs.Ytmiikbfacgmopaa.M
open Go Go.Proofs Go.Proofs.Ytmiikbfacgmopaa.E Go.Proofs.Ytmiikbfacgmopaa.W
set_option linter.unusedVariables false
set_option linter.unusedSimpArgs false
theorem mul_bd {a b A B : Int} (h1 : 0 ≤ a ∧ a ≤ A) (h2 : 0 ≤ b ∧ b ≤ B) : 0 ≤ a * b ∧ a * b ≤ A * B :=
 ⟨Int.mul_nonneg h1.1 h2.1, Int.mul_le_mul h1.2 h2.2 h2.1 (Int.le_trans h1.1 h1.2)⟩
def D (p : SProblem) (i : Nat) : SDemand := p.Demands.getD i dSDemand
def us (p : SProblem) (d : SDemand) (t : Nat) : Bool := decide (d.Arrive ≤ p.From + t * p.Length ∧ p.From + t * p.Length + p.Length ≤ d.Depart)
theorem VP.slot {p : SProblem} (h : VP p) {t : Nat} (ht : t < p.Caps.length) : 0 ≤ (t : Int) * p.Length ∧ (t : Int) * p.Length ≤ 48 * 1440 :=
 mul_bd (by have := h.nc; omega) (by have := h.len; omega)
theorem VP.ml {p : SProblem} (h : VP p) {i : Nat} (hi : i < p.Demands.length) : 0 ≤ (D p i).Max * p.Length ∧ (D p i).Max * p.Length ≤ 3145728 * 1440 := by
 have h1 := h.dem i hi
 have h2 := h.len
 unfold okDem at h1
 exact mul_bd (a := (p.Demands.getD i dSDemand).Max) ⟨h1.2.2.1, h1.2.2.2.1⟩ (by omega)
theorem VP.cl {p : SProblem} (h : VP p) {t f : Nat} (ht : t < p.Caps.length) (hf : f < p.Parents.length) : 0 ≤ (p.Caps.getD t []).getD f 0 * p.Length ∧ (p.Caps.getD t []).getD f 0 * p.Length ≤ 1073741824 * 1440 := by
 have h1 := h.cap t ht f hf
 have h2 := h.len
 unfold okCap at h1
 exact mul_bd (by omega) (by omega)
theorem usable_eq {p : SProblem} (h : VP p) (F : Nat) (d : SDemand) {t : Nat} (ht : t < p.Caps.length) : plan_usable F p d (t : Int) = some (us p d t) ∧ chargenetref18_Usable F p d (t : Int) = some (us p d t) := by
 have h1 := h.slot ht
 have h2 := h.from0
 have h3 := h.len
 have w1 : IntKind.wrap .i64 ((t : Int) * p.Length) = (t : Int) * p.Length := Go.IntWalk.i64_in _ (by omega)
 have w2 : IntKind.wrap .i64 (p.From + (t : Int) * p.Length) = p.From + (t : Int) * p.Length := Go.IntWalk.i64_in _ (by omega)
 have w3 : IntKind.wrap .i64 (p.From + (t : Int) * p.Length + p.Length) = p.From + (t : Int) * p.Length + p.Length := Go.IntWalk.i64_in _ (by omega)
 unfold plan_usable chargenetref18_Usable us
 rw [w1, w2, w3]
 by_cases a : d.Arrive ≤ p.From + (t : Int) * p.Length
 ·rw [decide_eq_true a, cond_true]
  simp only [a, true_and, and_self]
 ·rw [decide_eq_false a, cond_false]
  simp only [a, false_and, decide_false, and_self]
def bel (p : SProblem) : Nat → Int → Nat → Bool
 | 0, _, _ => false
 | k + 1, f, g => bif decide (f < 0) then false else (bif decide (f = (g : Int)) then true else bel p k (p.Parents.getD f.toNat 0) g)
theorem bel_le {p : SProblem} (h : VP p) : ∀ (k : Nat) (f : Int) (g : Nat), f < p.Parents.length → bel p k f g = true → (g : Int) ≤ f
 | 0, f, g, _, hb => by simp [bel] at hb
 | k + 1, f, g, hf, hb => by
  simp only [bel] at hb
  by_cases a : f < 0
  ·rw [decide_eq_true a] at hb; cases hb
  rw [decide_eq_false a, cond_false] at hb
  by_cases b : f = (g : Int)
  ·omega
  rw [decide_eq_false b, cond_false] at hb
  have h1 := h.par f.toNat (by omega)
  unfold okPar at h1
  have := bel_le h k _ g (by omega) hb
  omega
theorem bel_fuel {p : SProblem} (h : VP p) : ∀ (k k' : Nat) (f : Int) (g : Nat), -1 ≤ f → f < p.Parents.length → f + 1 < k → f + 1 < k' → bel p k f g = bel p k' f g
 | 0, _, _, _, h0, _, h1, _ => by omega
 | _, 0, _, _, h0, _, _, h1 => by omega
 | k + 1, k' + 1, f, g, h0, hf, h1, h2 => by
  simp only [bel]
  by_cases a : f < 0
  ·rw [decide_eq_true a]; rfl
  rw [decide_eq_false a, cond_false, cond_false]
  by_cases b : f = (g : Int)
  ·rw [decide_eq_true b]; rfl
  rw [decide_eq_false b, cond_false, cond_false]
  have h3 := h.par f.toNat (by omega)
  unfold okPar at h3
  exact bel_fuel h k k' _ g (by omega) (by omega) (by omega) (by omega)
def B (p : SProblem) (f : Int) (g : Nat) : Bool := bel p 64 f g
theorem B_eq {p : SProblem} (h : VP p) {k : Nat} {f : Int} (g : Nat) (h0 : -1 ≤ f) (hf : f < p.Parents.length) (h1 : f + 1 < k) : bel p k f g = B p f g := by
 have := h.np
 exact bel_fuel h k 64 f g h0 hf h1 (by omega)
def bI (b : Bool) (x : Int) : Int := bif b then x else 0
theorem bI_bd {b : Bool} {x M : Int} (h : 0 ≤ x ∧ x ≤ M) : 0 ≤ bI b x ∧ bI b x ≤ M := by
 cases b
 ·exact ⟨Int.le_refl _, Int.le_trans h.1 h.2⟩
 ·exact h
def X (l : List (List Int)) (i u : Nat) : Int := (l.getD i []).getD u 0
def cellOk (p : SProblem) (l : List (List Int)) (i u : Nat) : Prop := 0 ≤ X l i u ∧ X l i u ≤ (D p i).Max * p.Length ∧ (0 < X l i u → us p (D p i) u = true)
def con (p : SProblem) (l : List (List Int)) (u g i : Nat) : Int := bI (B p (D p i).Feeder g) (X l i u)
def rowOk (p : SProblem) (e : List Int) (l : List (List Int)) (i : Nat) : Prop := (l.getD i []).length = p.Caps.length ∧ (∀ u, u < p.Caps.length → cellOk p l i u) ∧ S (fun u => X l i u) p.Caps.length = e.getD i 0
def loadOk (p : SProblem) (l : List (List Int)) : Prop := ∀ u, u < p.Caps.length → ∀ g, g < p.Parents.length → S (fun i => con p l u g i) p.Demands.length ≤ (p.Caps.getD u []).getD g 0 * p.Length
theorem S_succ (g : Nat → Int) (n : Nat) : S g (n + 1) = S g n + g n := rfl
theorem cell_bd {p : SProblem} (h : VP p) {l : List (List Int)} {i u : Nat} (hi : i < p.Demands.length) (hc : cellOk p l i u) : 0 ≤ X l i u ∧ X l i u ≤ 4529848320 := by
 have h1 := h.ml hi
 unfold cellOk at hc
 omega
theorem con_bd {p : SProblem} (h : VP p) {l : List (List Int)} {i u : Nat} (g : Nat) (hi : i < p.Demands.length) (hc : cellOk p l i u) : 0 ≤ con p l u g i ∧ con p l u g i ≤ 4529848320 := by
 exact bI_bd (cell_bd h hi hc)
theorem load_bd {p : SProblem} (h : VP p) {l : List (List Int)} {u : Nat} (g : Nat) : ∀ (n : Nat), n ≤ p.Demands.length → (∀ i, i < n → cellOk p l i u) → 0 ≤ S (fun i => con p l u g i) n ∧ S (fun i => con p l u g i) n ≤ 4529848320 * n
 | 0, _, _ => by simp [S]
 | n + 1, hn, hc => by
  have h1 := load_bd h g n (by omega) (fun i hi => hc i (by omega))
  have h2 := con_bd h g (by omega) (hc n (by omega))
  rw [S_succ]
  omega
theorem load_l {p : SProblem} (h : VP p) (l : List (List Int)) (i t : Nat) (ht : t < p.Caps.length) (tot : Int) (K : Int → Int → List (List Int) → Option Bool) (hx : 0 ≤ X l i t ∧ X l i t ≤ 4529848320) : ∀ (k : Nat) (f : Int) (o : List (List Int)), -1 ≤ f → f < p.Parents.length → f + 1 < k →
  o.length = p.Caps.length → (o.getD t []).length = p.Parents.length → (∀ g : Nat, (g : Int) ≤ f → 0 ≤ X o t g ∧ X o t g ≤ 1000000000000) →
  ∃ o', plan_Check_l444 p l (i : Int) tot (t : Int) K k f o = plan_Check_p426 l (i : Int) tot (t : Int) K o' ∧ o'.length = p.Caps.length ∧ (∀ u, u ≠ t → o'.getD u [] = o.getD u []) ∧ (o'.getD t []).length = p.Parents.length ∧
   ∀ g, g < p.Parents.length → X o' t g = X o t g + bI (bel p k f g) (X l i t)
 | 0, _, _, _, _, h0, _, _, _ => by omega
 | k + 1, f, o, h0, hf, h1, ho, hr, hb => by
  simp only [plan_Check_l444, plan_Check_b444, Int.toNat_natCast]
  by_cases a : f < 0
  ·rw [decide_eq_false (show ¬ (0 ≤ f) by omega), cond_false]
   refine ⟨o, rfl, ho, fun _ _ => rfl, hr, fun g hg => ?_⟩
   simp only [bel]
   rw [decide_eq_true a]; exact (Int.add_zero _).symm
  have hfl : f.toNat < p.Parents.length := by omega
  have hb1 := hb f.toNat (by omega)
  have hX : (o.getD t []).getD f.toNat 0 = X o t f.toNat := rfl
  have hXl : (l.getD i []).getD t 0 = X l i t := rfl
  have hrl : ((o.getD t []).length : Int) = (p.Parents.length : Int) := by omega
  rw [decide_eq_true (show 0 ≤ f by omega), cond_true, guard_pos (show (0 : Int) ≤ (t : Int) ∧ (t : Int) < (o.length : Int) by omega), guard_pos (show (0 : Int) ≤ (t : Int) ∧ (t : Int) < (o.length : Int) by omega),
   guard_pos (show (0 : Int) ≤ f ∧ f < ((o.getD t []).length : Int) by rw [hrl]; omega), guard_pos (show (0 : Int) ≤ f ∧ f < ((o.getD t []).length : Int) by rw [hrl]; omega), guard_pos (show (0 : Int) ≤ f ∧ f < (p.Parents.length : Int) by omega), hX, hXl,
   Go.IntWalk.i64_in (X o t f.toNat + X l i t) (by omega)]
  obtain ⟨o1, ho1⟩ : ∃ o1, o1 = o.set t ((o.getD t []).set f.toNat (X o t f.toNat + X l i t)) := ⟨_, rfl⟩
  rw [← ho1]
  have e1 : o1.getD t [] = (o.getD t []).set f.toNat (X o t f.toNat + X l i t) := by rw [ho1, getD_set, if_pos ⟨rfl, by omega⟩]
  have e2 : ∀ u, u ≠ t → o1.getD u [] = o.getD u [] := fun u hu => by rw [ho1, getD_set, if_neg (fun hh => hu hh.1)]
  have e3 : ∀ g, X o1 t g = if g = f.toNat ∧ f.toNat < p.Parents.length then X o t f.toNat + X l i t else X o t g := fun g => by
   unfold X
   rw [e1, getD_set, hr]; rfl
  have h3 := h.par f.toNat hfl
  unfold okPar at h3
  obtain ⟨o', g1, g2, g3, g4, g5⟩ := load_l h l i t ht tot K hx k (p.Parents.getD f.toNat 0) o1 (by omega) (by omega) (by omega) (by rw [ho1]; simp [ho]) (by rw [e1]; simpa using hr) (fun g hg => by
   rw [e3 g, if_neg (by omega)]
   exact hb g (by omega))
  refine ⟨o', g1, g2, fun u hu => (g3 u hu).trans (e2 u hu), g4, fun g hg => ?_⟩
  rw [g5 g hg, e3 g]
  simp only [bel]
  rw [decide_eq_false a, cond_false]
  by_cases b : f = (g : Int)
  ·have hbf : bel p k (p.Parents.getD f.toNat 0) g = false := by
    cases hq : bel p k (p.Parents.getD f.toNat 0) g with
    | false => rfl
    | true => have := bel_le h k _ g (by omega) hq; omega
   rw [hbf, decide_eq_true b, cond_true, if_pos ⟨by omega, hfl⟩, show g = f.toNat by omega]
   exact Int.add_zero _
  ·rw [decide_eq_false b, cond_false, if_neg (by omega)]
theorem row_l {p : SProblem} (h : VP p) (F : Nat) (hF : 100000000000000000 ≤ F) (e : List Int) (l : List (List Int)) (nd : Int) (i : Nat) (hi : i < p.Demands.length) (hlen : (l.getD i []).length = p.Caps.length) (K : Int → Int → List (List Int) → Option Bool) : ∀ (k t : Nat) (tot : Int) (o : List (List Int)), t ≤ p.Caps.length → p.Caps.length < k + t →
  o.length = p.Caps.length → (∀ u, u < p.Caps.length → (o.getD u []).length = p.Parents.length) → (∀ u, t ≤ u → u < p.Caps.length → ∀ g, g < p.Parents.length → 0 ≤ X o u g ∧ X o u g ≤ 4529848320 * i) → 0 ≤ tot → tot ≤ 4529848320 * t →
  (plan_Check_l423 F p e l nd (i : Int) K k tot (t : Int) o = some false ∧ ∃ u, t ≤ u ∧ u < p.Caps.length ∧ ¬ cellOk p l i u) ∨
  ((∀ u, t ≤ u → u < p.Caps.length → cellOk p l i u) ∧ ∃ o', plan_Check_l423 F p e l nd (i : Int) K k tot (t : Int) o = plan_Check_p348 e nd (i : Int) K (tot + (S (fun u => X l i u) p.Caps.length - S (fun u => X l i u) t)) o' ∧ o'.length = p.Caps.length ∧ (∀ u, u < p.Caps.length → (o'.getD u []).length = p.Parents.length) ∧
   ∀ u, u < p.Caps.length → ∀ g, g < p.Parents.length → X o' u g = X o u g + if t ≤ u then con p l u g i else 0)
 | 0, t, tot, o, h1, h2, _, _, _, _, _ => by omega
 | k + 1, t, tot, o, h1, h2, ho, hr, hb, ht0, ht1 => by
  simp only [plan_Check_l423, plan_Check_b423]
  rw [Int.toNat_natCast, Int.toNat_natCast]
  have hnc := h.nc
  have hnd := h.nd
  have hlen' : ((l.getD i []).length : Int) = (p.Caps.length : Int) := by omega
  by_cases ht : t < p.Caps.length
  ·have hml := h.ml hi
   have hXl : (l.getD i []).getD t 0 = X l i t := rfl
   have hD : p.Demands.getD i dSDemand = D p i := rfl
   rw [decide_eq_true (show (t : Int) < ((l.getD i []).length : Int) by omega), cond_true, guard_pos (show (0 : Int) ≤ (t : Int) ∧ (t : Int) < ((l.getD i []).length : Int) by omega), hXl, hD, Go.IntWalk.i64_in ((D p i).Max * p.Length) (by omega)]
   by_cases a1 : X l i t < 0
   ·rw [decide_eq_true a1]; exact .inl ⟨rfl, t, Nat.le_refl _, ht, fun hc => by have := hc.1; omega⟩
   rw [decide_eq_false a1, cond_false]
   by_cases a2 : (D p i).Max * p.Length < X l i t
   ·rw [decide_eq_true a2]; exact .inl ⟨rfl, t, Nat.le_refl _, ht, fun hc => by have := hc.2.1; omega⟩
   rw [decide_eq_false a2, cond_false, (usable_eq h F (D p i) ht).1, Option.bind_some]
   have hok : ∀ P : Option Bool, (0 < X l i t → us p (D p i) t = true) → (bif decide (0 < X l i t) then (bif !us p (D p i) t then some false else P) else P) = P := fun P hP => by
    by_cases a3 : 0 < X l i t
    ·rw [decide_eq_true a3, cond_true, hP a3]; rfl
    ·rw [decide_eq_false a3]; rfl
   by_cases a3 : 0 < X l i t → us p (D p i) t = true
   ·have hc : cellOk p l i t := ⟨by omega, by omega, a3⟩
    have hcb := cell_bd h hi hc
    rw [hok _ a3]
    have hdem := h.dem i hi
    unfold okDem at hdem
    rw [hD] at hdem
    have hnp := h.np
    obtain ⟨o1, g1, g2, g3, g4, g5⟩ := load_l h l i t ht tot (fun total_385 t77_386 o1_387 => plan_Check_l423 F p e l nd (i : Int) K k total_385 t77_386 o1_387) hcb F (D p i).Feeder o (by omega) (by omega) (by omega) ho (hr t ht) (fun g hg => by have := hb t (Nat.le_refl _) ht g (by omega); omega)
    unfold plan_Check_p452
    rw [Int.toNat_natCast, hD, g1]
    unfold plan_Check_p426
    rw [Int.toNat_natCast, Int.toNat_natCast, hXl, Go.IntWalk.i64_in (tot + X l i t) (by omega), wsucc t (by omega)]
    have q1 : ∀ u, u < p.Caps.length → ∀ g, g < p.Parents.length → X o1 u g = X o u g + if u = t then con p l u g i else 0 := fun u hu g hg => by
     by_cases hut : u = t
     ·subst hut
      rw [if_pos rfl, g5 g hg]
      unfold con
      rw [B_eq h g (by omega) (by omega) (by omega)]
     ·rw [if_neg hut, Int.add_zero]
      unfold X
      rw [g3 u hut]
    rcases row_l h F hF e l nd i hi hlen K k (t + 1) (tot + X l i t) o1 (by omega) (by omega) g2 (fun u hu => by
      by_cases hut : u = t
      ·subst hut; exact g4
      ·rw [g3 u hut]; exact hr u hu) (fun u hu0 hu g hg => by
      rw [q1 u hu g hg, if_neg (by omega), Int.add_zero]; exact hb u (by omega) hu g hg) (by omega) (by omega) with ⟨r1, u, r2, r3, r4⟩ | ⟨r1, o', r2, r3, r4, r5⟩
    ·exact .inl ⟨r1, u, by omega, r3, r4⟩
    ·refine .inr ⟨fun u s1 s2 => ?_, o', ?_, r3, r4, fun u hu g hg => ?_⟩
     ·by_cases hut : u = t
      ·subst hut; exact hc
      ·exact r1 u (by omega) s2
     ·refine r2.trans ?_
      rw [S_succ]
      congr 1
      omega
     ·rw [r5 u hu g hg, q1 u hu g hg]
      by_cases hut : u = t
      ·subst hut; rw [if_pos rfl, if_neg (by omega), if_pos (Nat.le_refl _)]; omega
      ·rw [if_neg hut]
       by_cases htu : t ≤ u
       ·rw [if_pos (by omega), if_pos htu]; omega
       ·rw [if_neg (by omega), if_neg htu]; omega
   ·have a4 : 0 < X l i t := Classical.byContradiction fun hn => a3 (fun hh => absurd hh hn)
    have a5 : us p (D p i) t = false := by
     cases hq : us p (D p i) t with
     | false => rfl
     | true => exact absurd (fun _ => hq) a3
    rw [decide_eq_true a4, a5]
    exact .inl ⟨rfl, t, Nat.le_refl _, ht, fun hc => a3 hc.2.2⟩
  ·have htn : t = p.Caps.length := by omega
   subst htn
   rw [decide_eq_false (show ¬ ((p.Caps.length : Int) < ((l.getD i []).length : Int)) by omega), cond_false]
   refine .inr ⟨fun u g1 g2 => by omega, o, by rw [Int.sub_self, Int.add_zero], ho, hr, fun u hu g hg => by rw [if_neg (by omega), Int.add_zero]⟩
theorem fini_l {p : SProblem} (h : VP p) (o : List (List Int)) (ho : o.length = p.Caps.length) (u : Nat) (hu : u < p.Caps.length) (hr : (o.getD u []).length = p.Parents.length) (K : Int → Option Bool) : ∀ (k g : Nat), g ≤ p.Parents.length → p.Parents.length < k + g →
  (plan_Check_l82 p o (u : Int) K k (g : Int) = some false ∧ ∃ f, g ≤ f ∧ f < p.Parents.length ∧ ¬ (X o u f ≤ (p.Caps.getD u []).getD f 0 * p.Length)) ∨
  (plan_Check_l82 p o (u : Int) K k (g : Int) = plan_Check_p65 (u : Int) K ∧ ∀ f, g ≤ f → f < p.Parents.length → X o u f ≤ (p.Caps.getD u []).getD f 0 * p.Length)
 | 0, g, h1, h2 => by omega
 | k + 1, g, h1, h2 => by
  have hcl := h.caplen u hu
  have hnp := h.np
  simp only [plan_Check_l82, plan_Check_b82]
  rw [Int.toNat_natCast, Int.toNat_natCast]
  by_cases hg : g < p.Parents.length
  ·have hc := h.cl hu hg
   rw [decide_eq_true (show (g : Int) < ((p.Caps.getD u []).length : Int) by omega), cond_true, guard_pos (show (0 : Int) ≤ (g : Int) ∧ (g : Int) < ((p.Caps.getD u []).length : Int) by omega), guard_pos (show (0 : Int) ≤ (u : Int) ∧ (u : Int) < (o.length : Int) by omega), guard_pos (show (0 : Int) ≤ (u : Int) ∧ (u : Int) < (o.length : Int) by omega), guard_pos (show (0 : Int) ≤ (g : Int) ∧ (g : Int) < ((o.getD u []).length : Int) by omega),
    show (o.getD u []).getD g 0 = X o u g from rfl, Go.IntWalk.i64_in ((p.Caps.getD u []).getD g 0 * p.Length) (by omega)]
   by_cases a : (p.Caps.getD u []).getD g 0 * p.Length < X o u g
   ·rw [decide_eq_true a]; exact .inl ⟨rfl, g, Nat.le_refl _, hg, by omega⟩
   rw [decide_eq_false a, cond_false, wsucc g (by omega)]
   rcases fini_l h o ho u hu hr K k (g + 1) (by omega) (by omega) with ⟨r1, f, r2, r3, r4⟩ | ⟨r1, r2⟩
   ·exact .inl ⟨r1, f, by omega, r3, r4⟩
   ·refine .inr ⟨r1, fun f s1 s2 => ?_⟩
    by_cases hf : f = g
    ·subst hf; omega
    ·exact r2 f (by omega) s2
  ·rw [decide_eq_false (show ¬ (g : Int) < ((p.Caps.getD u []).length : Int) by omega)]
   exact .inr ⟨rfl, fun f s1 s2 => by omega⟩
theorem fin_l {p : SProblem} (h : VP p) (F : Nat) (hF : 100000000000000000 ≤ F) (o : List (List Int)) (ho : o.length = p.Caps.length) (hr : ∀ u, u < p.Caps.length → (o.getD u []).length = p.Parents.length) : ∀ (k u : Nat), u ≤ p.Caps.length → p.Caps.length < k + u →
  ∃ b, plan_Check_l63 F p o k (u : Int) = some b ∧ (b = true ↔ ∀ v, u ≤ v → v < p.Caps.length → ∀ f, f < p.Parents.length → X o v f ≤ (p.Caps.getD v []).getD f 0 * p.Length)
 | 0, u, h1, h2 => by omega
 | k + 1, u, h1, h2 => by
  have hnc := h.nc
  have hnp := h.np
  simp only [plan_Check_l63, plan_Check_b63]
  by_cases hu : u < p.Caps.length
  ·rw [decide_eq_true (show (u : Int) < (p.Caps.length : Int) by omega), cond_true, guard_pos (show (0 : Int) ≤ (u : Int) ∧ (u : Int) < (p.Caps.length : Int) by omega)]
   rcases fini_l h o ho u hu (hr u hu) (fun t137_36 => plan_Check_l63 F p o k t137_36) F 0 (by omega) (by omega) with ⟨r1, f, r2, r3, r4⟩ | ⟨r1, r2⟩
   ·exact ⟨false, r1, ⟨fun hh => absurd hh (by decide), fun hh => absurd (hh u (Nat.le_refl _) hu f r3) r4⟩⟩
   ·obtain ⟨b, b1, b2⟩ := fin_l h F hF o ho hr k (u + 1) (by omega) (by omega)
    refine ⟨b, ?_, b2.trans ⟨fun hh v s1 s2 f s3 => ?_, fun hh v s1 s2 f s3 => hh v (by omega) s2 f s3⟩⟩
    ·refine r1.trans ?_
     unfold plan_Check_p65
     rw [wsucc u (by omega)]
     exact b1
    ·by_cases hv : v = u
     ·subst hv; exact r2 f (by omega) s3
     ·exact hh v (by omega) s2 f s3
  ·rw [decide_eq_false (show ¬ (u : Int) < (p.Caps.length : Int) by omega)]
   exact ⟨true, rfl, ⟨fun _ v s1 s2 => by omega, fun _ => rfl⟩⟩
theorem rows_l {p : SProblem} (h : VP p) (F : Nat) (hF : 100000000000000000 ≤ F) (e : List Int) (he : e.length = p.Demands.length) (l : List (List Int)) (hl : l.length = p.Demands.length) : ∀ (k i : Nat) (o : List (List Int)), i ≤ p.Demands.length → p.Demands.length < k + i →
  o.length = p.Caps.length → (∀ u, u < p.Caps.length → (o.getD u []).length = p.Parents.length) → (∀ j, j < i → rowOk p e l j) → (∀ u, u < p.Caps.length → ∀ g, g < p.Parents.length → X o u g = S (fun j => con p l u g j) i) →
  ∃ b, plan_Check_l337 F p e l k (p.Demands.length : Int) (i : Int) o = some b ∧ (b = true ↔ (∀ j, i ≤ j → j < p.Demands.length → rowOk p e l j) ∧ loadOk p l)
 | 0, i, o, h1, h2, _, _, _, _ => by omega
 | k + 1, i, o, h1, h2, ho, hr, hp, hX => by
  have hnd := h.nd
  have hnc := h.nc
  simp only [plan_Check_l337, plan_Check_b337]
  rw [Int.toNat_natCast]
  by_cases hi : i < p.Demands.length
  ·rw [decide_eq_true (show (i : Int) < (p.Demands.length : Int) by omega), cond_true, guard_pos (show (0 : Int) ≤ (i : Int) ∧ (i : Int) < (p.Demands.length : Int) by omega), guard_pos (show (0 : Int) ≤ (i : Int) ∧ (i : Int) < (l.length : Int) by omega), guard_pos (show (0 : Int) ≤ (i : Int) ∧ (i : Int) < (l.length : Int) by omega)]
   by_cases a : ((l.getD i []).length : Int) = (p.Caps.length : Int)
   ·rw [decide_eq_true a, Bool.not_true, cond_false]
    have a' : (l.getD i []).length = p.Caps.length := by omega
    rcases row_l h F hF e l (p.Demands.length : Int) i hi a' (fun t57_213 t58_214 o1_215 => plan_Check_l337 F p e l k t57_213 t58_214 o1_215) F 0 0 o (by omega) (by omega) ho hr (fun u _ hu g hg => by
      rw [hX u hu g hg]
      have := load_bd (l := l) (u := u) h g i (by omega) (fun j hj => (hp j hj).2.1 u hu)
      exact this) (by omega) (by omega) with ⟨r1, u, r2, r3, r4⟩ | ⟨r1, o', r2, r3, r4, r5⟩
    ·exact ⟨false, r1, ⟨fun hh => absurd hh (by decide), fun hh => absurd ((hh.1 i (Nat.le_refl _) hi).2.1 u r3) r4⟩⟩
    ·have hsum : (0 : Int) + (S (fun u => X l i u) p.Caps.length - S (fun u => X l i u) 0) = S (fun u => X l i u) p.Caps.length := by simp [S]
     rw [hsum] at r2
     rw [show ((0 : Nat) : Int) = 0 from rfl] at r2
     rw [r2]
     unfold plan_Check_p348
     rw [guard_pos (show (0 : Int) ≤ (i : Int) ∧ (i : Int) < (e.length : Int) by omega), Int.toNat_natCast]
     by_cases c : S (fun u => X l i u) p.Caps.length = e.getD i 0
     ·rw [decide_eq_true c, Bool.not_true, cond_false]
      unfold plan_Check_p340
      rw [wsucc i (by omega)]
      have hrow : rowOk p e l i := ⟨a', fun u hu => r1 u (by omega) hu, c⟩
      obtain ⟨b, b1, b2⟩ := rows_l h F hF e he l hl k (i + 1) o' (by omega) (by omega) r3 r4 (fun j hj => by
        by_cases hji : j = i
        ·subst hji; exact hrow
        ·exact hp j (by omega)) (fun u hu g hg => by rw [r5 u hu g hg, hX u hu g hg, if_pos (Nat.zero_le _)]; rfl)
      refine ⟨b, b1, b2.trans ⟨fun hh => ⟨fun j s1 s2 => ?_, hh.2⟩, fun hh => ⟨fun j s1 s2 => hh.1 j (by omega) s2, hh.2⟩⟩⟩
      by_cases hji : j = i
      ·subst hji; exact hrow
      ·exact hh.1 j (by omega) s2
     ·rw [decide_eq_false c]
      exact ⟨false, rfl, ⟨fun hh => absurd hh (by decide), fun hh => absurd (hh.1 i (Nat.le_refl _) hi).2.2 c⟩⟩
   ·rw [decide_eq_false a]
    exact ⟨false, rfl, ⟨fun hh => absurd hh (by decide), fun hh => absurd (hh.1 i (Nat.le_refl _) hi).1 (by omega)⟩⟩
  ·have hin : i = p.Demands.length := by omega
   subst hin
   rw [decide_eq_false (show ¬ ((p.Demands.length : Int) < (p.Demands.length : Int)) by omega), cond_false]
   unfold plan_Check_p90
   obtain ⟨b, b1, b2⟩ := fin_l h F hF o ho hr F 0 (by omega) (by omega)
   refine ⟨b, b1, b2.trans ⟨fun hh => ⟨fun j s1 s2 => by omega, fun u hu g hg => ?_⟩, fun hh v _ s2 f s3 => ?_⟩⟩
   ·rw [← hX u hu g hg]; exact hh u (by omega) hu g hg
   ·rw [hX v s2 f s3]; exact hh.2 v s2 f s3
theorem table_l {p : SProblem} (h : VP p) (F : Nat) (hF : 100000000000000000 ≤ F) (e : List Int) (l : List (List Int)) : ∀ (k u : Nat) (o : List (List Int)), u ≤ p.Caps.length → p.Caps.length < k + u → o.length = p.Caps.length → (∀ v, v < u → o.getD v [] = List.replicate p.Parents.length 0) →
  ∃ o', plan_Check_l474 F p e l k (u : Int) o = plan_Check_p459 F p e l o' ∧ o'.length = p.Caps.length ∧ ∀ v, v < p.Caps.length → o'.getD v [] = List.replicate p.Parents.length 0
 | 0, u, o, h1, h2, _, _ => by omega
 | k + 1, u, o, h1, h2, ho, hr => by
  have hnc := h.nc
  have hnp := h.np
  simp only [plan_Check_l474, plan_Check_b474]
  rw [Int.toNat_natCast, Int.toNat_natCast, Int.toNat_natCast, List.length_replicate]
  by_cases hu : u < p.Caps.length
  ·rw [decide_eq_true (show (u : Int) < (p.Caps.length : Int) by omega), cond_true, guard_pos (show (0 : Int) ≤ (u : Int) ∧ (u : Int) < (o.length : Int) by omega), guard_pos (by omega), guard_pos (show (0 : Int) ≤ (u : Int) ∧ (u : Int) < (o.length : Int) by omega), wsucc u (by omega)]
   refine table_l h F hF e l k (u + 1) _ (by omega) (by omega) (by simpa using ho) (fun v hv => ?_)
   rw [getD_set]
   by_cases hvu : v = u
   ·rw [if_pos ⟨hvu, by omega⟩]
   ·rw [if_neg (fun hh => hvu hh.1)]; exact hr v (by omega)
  ·rw [decide_eq_false (show ¬ (u : Int) < (p.Caps.length : Int) by omega), cond_false]
   exact ⟨o, rfl, ho, fun v hv => hr v (by omega)⟩
def planOk (p : SProblem) (e : List Int) (l : List (List Int)) : Prop := e.length = p.Demands.length ∧ l.length = p.Demands.length ∧ (∀ j, j < p.Demands.length → rowOk p e l j) ∧ loadOk p l
theorem pcheck_eq {p : SProblem} (h : VP p) (F : Nat) (hF : 100000000000000000 ≤ F) (hv : plan_Valid F p = some 0) (e : List Int) (l : List (List Int)) : ∃ b, plan_Check F p e l = some b ∧ (b = true ↔ planOk p e l) := by
 have hnc := h.nc
 have hnd := h.nd
 unfold plan_Check
 rw [hv, Option.bind_some, decide_eq_true rfl, Bool.not_true, cond_false]
 by_cases a1 : (e.length : Int) = (p.Demands.length : Int)
 ·rw [decide_eq_true a1, Bool.not_true, cond_false]
  by_cases a2 : (l.length : Int) = (p.Demands.length : Int)
  ·rw [decide_eq_true a2, Bool.not_true, cond_false, guard_pos (by omega), Int.toNat_natCast]
   obtain ⟨o', g1, g2, g3⟩ := table_l h F hF e l F 0 (List.replicate p.Caps.length []) (by omega) (by omega) (by simp) (fun v hv => by omega)
   rw [show ((0 : Nat) : Int) = 0 from rfl] at g1
   rw [g1]
   unfold plan_Check_p459
   obtain ⟨b, b1, b2⟩ := rows_l h F hF e (by omega) l (by omega) F 0 o' (by omega) (by omega) g2 (fun u hu => by rw [g3 u hu]; simp) (fun j hj => by omega) (fun u hu g hg => by unfold X; rw [g3 u hu, getD_rep]; rfl)
   exact ⟨b, b1, b2.trans ⟨fun hh => ⟨by omega, by omega, fun j hj => hh.1 j (by omega) hj, hh.2⟩, fun hh => ⟨fun j _ hj => hh.2.2.1 j hj, hh.2.2.2⟩⟩⟩
  ·rw [decide_eq_false a2]
   exact ⟨false, rfl, ⟨fun hh => absurd hh (by decide), fun hh => absurd hh.2.1 (by omega)⟩⟩
 ·rw [decide_eq_false a1]
  exact ⟨false, rfl, ⟨fun hh => absurd hh (by decide), fun hh => absurd hh.1 (by omega)⟩⟩
end Go.Proofs.Ytmiikbfacgmopaa.M
