/- Plain laws of chapter 18: a flow, arc by arc, is a plan that keeps all limits. -/
import Derived.Test.YtmiikbfacgmopaaPlainJ
namespace Go.Proofs.Ytmiikbfacgmopaa.M
open Go Go.Proofs Go.Proofs.Ytmiikbfacgmopaa.E Go.Proofs.Ytmiikbfacgmopaa.W
set_option linter.unusedVariables false
set_option linter.unusedSimpArgs false
def zs (w : SArc → Int → Int) (φ : Nat → Int) : List SArc → Nat → Int
 | [], _ => 0
 | a :: A, k => w a (φ k) + zs w φ A (k + 1)
theorem zs_append (w : SArc → Int → Int) (φ : Nat → Int) : ∀ (A B : List SArc) (k : Nat), zs w φ (A ++ B) k = zs w φ A k + zs w φ B (k + A.length)
 | [], B, k => by simp [zs]
 | a :: A, B, k => by
  simp only [List.cons_append, zs, zs_append w φ A B (k + 1), List.length_cons]
  rw [show k + 1 + A.length = k + (A.length + 1) by omega]
  omega
theorem S_zs (w : SArc → Int → Int) (φ : Nat → Int) : ∀ (A : List SArc) (k : Nat), S (fun i => w (A.getD i dSArc) (φ (k + i))) A.length = zs w φ A k
 | [], k => rfl
 | a :: A, k => by
  rw [List.length_cons, S_shift]
  simp only [zs]
  rw [← S_zs w φ A (k + 1)]
  have : (fun i => w ((a :: A).getD (i + 1) dSArc) (φ (k + (i + 1)))) = fun i => w (A.getD i dSArc) (φ (k + 1 + i)) := funext fun i => by
   rw [show k + (i + 1) = k + 1 + i by omega]; rfl
  rw [this]
  rfl
theorem zs_one (w : SArc → Int → Int) (φ : Nat → Int) (a : SArc) (k : Nat) : zs w φ [a] k = w a (φ k) := by simp [zs]
section
variable {p : SProblem} (w : SArc → Int → Int) (φ : Nat → Int)
theorem zs_Src (e : Nat → Int) (k : Nat) : ∀ n, zs w φ (Src e n) k = S (fun i => w (srcA (e i) i) (φ (k + i))) n
 | 0 => rfl
 | n + 1 => by
  simp only [Src]
  rw [zs_append, zs_Src e k n, S_succ, zs_one, Src_len]
theorem zs_Us (i k : Nat) : ∀ t, zs w φ (Us p i t) k = S (fun u => bif us p (D p i) u then w (useA p i u) (φ (k + (Us p i u).length)) else 0) t
 | 0 => rfl
 | t + 1 => by
  simp only [Us]
  rw [zs_append, zs_Us i k t, S_succ]
  cases us p (D p i) t with
  | true => rw [cond_true, cond_true, zs_one]
  | false => rfl
theorem zs_AllU (k : Nat) : ∀ n, zs w φ (AllU p n) k = S (fun i => zs w φ (Us p i p.Caps.length) (k + (AllU p i).length)) n
 | 0 => rfl
 | n + 1 => by
  simp only [AllU]
  rw [zs_append, zs_AllU k n, S_succ]
theorem zs_Fs (t k : Nat) : ∀ f, zs w φ (Fs p t f) k = S (fun g => w (feedA p t g) (φ (k + g))) f
 | 0 => rfl
 | f + 1 => by
  simp only [Fs]
  rw [zs_append, zs_Fs t k f, S_succ, zs_one, Fs_len]
theorem zs_AllF (k : Nat) : ∀ n, zs w φ (AllF p n) k = S (fun t => zs w φ (Fs p t p.Parents.length) (k + t * p.Parents.length)) n
 | 0 => rfl
 | n + 1 => by
  simp only [AllF]
  rw [zs_append, zs_AllF k n, S_succ, AllF_len]
end
def posU (p : SProblem) (i u : Nat) : Nat := p.Demands.length + (AllU p i).length + (Us p i u).length
def give (p : SProblem) (fl : List Int) (i u : Nat) : Int := bI (us p (D p i) u) (lf fl (posU p i u))
theorem S_only (n i : Nat) (hi : i < n) (g : Nat → Int) (h : ∀ j, j < n → j ≠ i → g j = 0) : S g n = g i := by
 have h1 := S_upd (fun _ => 0) g i n (fun j hj hji => by rw [h j hj hji])
 rw [S_zero, if_pos hi] at h1
 omega
theorem S_none (n : Nat) (g : Nat → Int) (h : ∀ j, j < n → g j = 0) : S g n = 0 := by
 rw [S_congr (g' := fun _ => 0) h, S_zero]
section
variable {p : SProblem}
theorem zs_PA (w : SArc → Int → Int) (φ : Nat → Int) (e : Nat → Int) : zs w φ (PA p e) 0 = S (fun i => w (srcA (e i) i) (φ i)) p.Demands.length + S (fun i => S (fun u => bif us p (D p i) u then w (useA p i u) (φ (posU p i u)) else 0) p.Caps.length) p.Demands.length +
  S (fun t => S (fun g => w (feedA p t g) (φ (p.Demands.length + (AllU p p.Demands.length).length + t * p.Parents.length + g))) p.Parents.length) p.Caps.length := by
 unfold PA
 rw [zs_append, zs_append, zs_Src, zs_AllU, zs_AllF, List.length_append, Src_len]
 simp only [Nat.zero_add]
 congr 1
 ·congr 1
  refine S_congr fun i _ => ?_
  rw [zs_Us]
  rfl
 ·refine S_congr fun t _ => ?_
  rw [zs_Fs]
theorem out_zs (A : List SArc) (l : Nat → Int) (v : Nat) : out A l v = zs (fun a x => bI (Nat.beq a.From.toNat v) x - bI (Nat.beq a.To.toNat v) x) l A 0 := by
 rw [← S_zs]
 unfold out aF aT
 refine S_congr fun i _ => ?_
 rw [Nat.zero_add]
 have key : ∀ (a : Nat) (x : Int), (if a = v then x else 0) = bI (Nat.beq a v) x := fun a x => by
  by_cases h : a = v
  ·rw [if_pos h, h, show Nat.beq v v = true from Nat.beq_refl v]; rfl
  ·rw [if_neg h]
   cases hq : Nat.beq a v with
   | true => exact absurd (Nat.eq_of_beq_eq_true hq) h
   | false => rfl
 rw [key, key]
theorem beq_no {a b : Nat} (h : a ≠ b) : Nat.beq a b = false := by
 cases hq : Nat.beq a b with
 | true => exact absurd (Nat.eq_of_beq_eq_true hq) h
 | false => rfl
theorem bI_no (x : Int) : bI false x = 0 := rfl
theorem bI_yes (x : Int) : bI true x = x := rfl
theorem up_ne (h : VP p) {t g : Nat} (hg : g < p.Parents.length) {v : Nat} (hv : v = 0 ∨ 2 ≤ v ∧ v < 2 + p.Demands.length) : up p t g ≠ v := by
 unfold up
 by_cases a : 0 ≤ p.Parents.getD g 0
 ·rw [decide_eq_true a, cond_true]; unfold nod; omega
 ·rw [decide_eq_false a, cond_false]; omega
theorem out_src (h : VP p) (e φ : Nat → Int) : out (PA p e) φ 0 = S φ p.Demands.length := by
 rw [out_zs, zs_PA]
 have e1 : S (fun i => bI (Nat.beq (srcA (e i) i).From.toNat 0) (φ i) - bI (Nat.beq (srcA (e i) i).To.toNat 0) (φ i)) p.Demands.length = S φ p.Demands.length := S_congr fun i _ => by
  unfold srcA
  simp only
  rw [Int.toNat_natCast, beq_no (show 2 + i ≠ 0 by omega)]
  show bI true (φ i) - bI false (φ i) = φ i
  rw [bI_yes, bI_no]; omega
 have e2 : S (fun i => S (fun u => bif us p (D p i) u then bI (Nat.beq (useA p i u).From.toNat 0) (φ (posU p i u)) - bI (Nat.beq (useA p i u).To.toNat 0) (φ (posU p i u)) else 0) p.Caps.length) p.Demands.length = 0 := S_none _ _ fun i _ => S_none _ _ fun u _ => by
  unfold useA nod
  simp only
  rw [Int.toNat_natCast, Int.toNat_natCast, beq_no (show 2 + i ≠ 0 by omega), beq_no (by omega)]
  cases us p (D p i) u <;> rfl
 have e3 : S (fun t => S (fun g => bI (Nat.beq (feedA p t g).From.toNat 0) (φ (p.Demands.length + (AllU p p.Demands.length).length + t * p.Parents.length + g)) - bI (Nat.beq (feedA p t g).To.toNat 0) (φ (p.Demands.length + (AllU p p.Demands.length).length + t * p.Parents.length + g))) p.Parents.length) p.Caps.length = 0 := S_none _ _ fun t _ => S_none _ _ fun g hg => by
  unfold feedA
  simp only
  rw [Int.toNat_natCast, Int.toNat_natCast, beq_no (show nod p t g ≠ 0 by unfold nod; omega), beq_no (up_ne h hg (.inl rfl))]
  rfl
 rw [e1, e2, e3]
 omega
theorem out_dem (h : VP p) (e φ : Nat → Int) (fl : List Int) (hφ : φ = lf fl) (i : Nat) (hi : i < p.Demands.length) : out (PA p e) φ (2 + i) = S (fun u => give p fl i u) p.Caps.length - φ i := by
 rw [out_zs, zs_PA]
 have e1 : S (fun j => bI (Nat.beq (srcA (e j) j).From.toNat (2 + i)) (φ j) - bI (Nat.beq (srcA (e j) j).To.toNat (2 + i)) (φ j)) p.Demands.length = - φ i := by
  rw [S_only _ i hi _ (fun j hj hji => ?_)]
  ·unfold srcA
   simp only
   rw [Int.toNat_natCast, show Nat.beq (2 + i) (2 + i) = true from Nat.beq_refl _, show (0 : Int).toNat = 0 from rfl, beq_no (show 0 ≠ 2 + i by omega), bI_yes, bI_no]; omega
  ·unfold srcA
   simp only
   rw [Int.toNat_natCast, beq_no (show 2 + j ≠ 2 + i by omega), show (0 : Int).toNat = 0 from rfl, beq_no (show 0 ≠ 2 + i by omega), bI_no]; omega
 have e2 : S (fun j => S (fun u => bif us p (D p j) u then bI (Nat.beq (useA p j u).From.toNat (2 + i)) (φ (posU p j u)) - bI (Nat.beq (useA p j u).To.toNat (2 + i)) (φ (posU p j u)) else 0) p.Caps.length) p.Demands.length = S (fun u => give p fl i u) p.Caps.length := by
  rw [S_only _ i hi _ (fun j hj hji => ?_)]
  ·refine S_congr fun u _ => ?_
   unfold useA nod give
   simp only
   rw [Int.toNat_natCast, Int.toNat_natCast, show Nat.beq (2 + i) (2 + i) = true from Nat.beq_refl _, beq_no (by omega), hφ]
   cases us p (D p i) u with
   | true => rw [cond_true, bI_yes, bI_no]; omega
   | false => rfl
  ·refine S_none _ _ fun u _ => ?_
   unfold useA nod
   simp only
   rw [Int.toNat_natCast, Int.toNat_natCast, beq_no (show 2 + j ≠ 2 + i by omega), beq_no (by omega)]
   cases us p (D p j) u <;> rfl
 have e3 : S (fun t => S (fun g => bI (Nat.beq (feedA p t g).From.toNat (2 + i)) (φ (p.Demands.length + (AllU p p.Demands.length).length + t * p.Parents.length + g)) - bI (Nat.beq (feedA p t g).To.toNat (2 + i)) (φ (p.Demands.length + (AllU p p.Demands.length).length + t * p.Parents.length + g))) p.Parents.length) p.Caps.length = 0 := S_none _ _ fun t _ => S_none _ _ fun g hg => by
  unfold feedA
  simp only
  rw [Int.toNat_natCast, Int.toNat_natCast, beq_no (show nod p t g ≠ 2 + i by unfold nod; omega), beq_no (up_ne h hg (.inr ⟨by omega, by omega⟩))]
  rfl
 rw [e1, e2, e3]
 omega
def XS (p : SProblem) (t g : Nat) (v : Nat) : Bool := decide (2 + p.Demands.length + t * p.Parents.length ≤ v) && decide (v < 2 + p.Demands.length + (t + 1) * p.Parents.length) && B p ((v - (2 + p.Demands.length + t * p.Parents.length) : Nat) : Int) g
theorem XS_nod {t g : Nat} (u f : Nat) (hf : f < p.Parents.length) : XS p t g (nod p u f) = (decide (u = t) && B p (f : Int) g) := by
 unfold XS nod
 rw [Nat.succ_mul]
 by_cases h : u = t
 ·subst h
  rw [decide_eq_true (show 2 + p.Demands.length + u * p.Parents.length ≤ 2 + p.Demands.length + u * p.Parents.length + f by omega), decide_eq_true (show 2 + p.Demands.length + u * p.Parents.length + f < 2 + p.Demands.length + (u * p.Parents.length + p.Parents.length) by omega), decide_eq_true (rfl : u = u), show 2 + p.Demands.length + u * p.Parents.length + f - (2 + p.Demands.length + u * p.Parents.length) = f by omega]
  rfl
 ·rw [decide_eq_false h]
  rcases Nat.lt_or_gt_of_ne h with hlt | hgt
  ·have : (u + 1) * p.Parents.length ≤ t * p.Parents.length := Nat.mul_le_mul_right _ hlt
   rw [Nat.succ_mul] at this
   rw [decide_eq_false (show ¬ (2 + p.Demands.length + t * p.Parents.length ≤ 2 + p.Demands.length + u * p.Parents.length + f) by omega)]
   rfl
  ·have : (t + 1) * p.Parents.length ≤ u * p.Parents.length := Nat.mul_le_mul_right _ hgt
   rw [Nat.succ_mul] at this
   rw [decide_eq_false (show ¬ (2 + p.Demands.length + u * p.Parents.length + f < 2 + p.Demands.length + (t * p.Parents.length + p.Parents.length)) by omega), Bool.and_false]
   rfl
theorem XS_low {t g v : Nat} (hv : v < 2 + p.Demands.length) : XS p t g v = false := by
 unfold XS
 rw [decide_eq_false (by omega)]
 rfl
theorem B_self {f : Nat} : B p (f : Int) f = true := by
 show (bif decide ((f : Int) < 0) then false else bif decide ((f : Int) = (f : Int)) then true else bel p 63 (p.Parents.getD ((f : Int)).toNat 0) f) = true
 rw [decide_eq_false (by omega), decide_eq_true (rfl : (f : Int) = (f : Int))]
 rfl
theorem B_up (h : VP p) {f g : Nat} (hf : f < p.Parents.length) (hne : f ≠ g) : B p (f : Int) g = (decide (0 ≤ p.Parents.getD f 0) && B p (p.Parents.getD f 0) g) := by
 have h3 := h.par f hf
 have hnp := h.np
 unfold okPar at h3
 have e1 : B p (f : Int) g = bel p 63 (p.Parents.getD f 0) g := by
  unfold B
  simp only [bel]
  rw [decide_eq_false (show ¬ ((f : Int) < 0) by omega), decide_eq_false (show ¬ ((f : Int) = (g : Int)) by omega), cond_false, cond_false, Int.toNat_natCast]
 rw [e1, B_eq h g (by omega) (by omega) (by omega)]
 by_cases a : 0 ≤ p.Parents.getD f 0
 ·rw [decide_eq_true a]; rfl
 ·rw [decide_eq_false a]
  unfold B
  simp only [bel]
  rw [decide_eq_true (show p.Parents.getD f 0 < 0 by omega)]
  rfl
theorem load_eq (h : VP p) (F : Nat) (hF : 100000000000000000 ≤ F) (e : Nat → Int) (he : ∀ i, i < p.Demands.length → 0 ≤ e i ∧ e i ≤ 1099511627776) (fl : List Int) (hflow : Flow (PA p e) (NN p) 0 1 (lf fl)) (t g : Nat) (ht : t < p.Caps.length) (hg : g < p.Parents.length) :
  S (fun i => bI (B p (D p i).Feeder g) (give p fl i t)) p.Demands.length = lf fl (p.Demands.length + (AllU p p.Demands.length).length + t * p.Parents.length + g) := by
 obtain ⟨gn, _, _⟩ := PA_good h F hF he
 have hnet := gn.net
 have hsum := sum_cut (PA p e) (NN p) hnet (lf fl) (XS p t g)
 have hz : S (fun v => if XS p t g v = true then out (PA p e) (lf fl) v else 0) (NN p) = 0 := S_none _ _ fun v hv => by
  by_cases hx : XS p t g v = true
  ·rw [if_pos hx]
   have hlow : ¬ v < 2 + p.Demands.length := fun hh => by rw [XS_low hh] at hx; cases hx
   exact hflow.cons v hv (by omega) (by omega)
  ·rw [if_neg hx]
 rw [hz] at hsum
 have hw : S (fun i => (if XS p t g (aF (PA p e) i) = true ∧ XS p t g (aT (PA p e) i) = false then lf fl i else 0) - (if XS p t g (aT (PA p e) i) = true ∧ XS p t g (aF (PA p e) i) = false then lf fl i else 0)) (PA p e).length =
   zs (fun a x => bI (XS p t g a.From.toNat && !XS p t g a.To.toNat) x - bI (XS p t g a.To.toNat && !XS p t g a.From.toNat) x) (lf fl) (PA p e) 0 := by
  rw [← S_zs]
  refine S_congr fun i _ => ?_
  rw [Nat.zero_add]
  unfold aF aT
  cases XS p t g ((PA p e).getD i dSArc).From.toNat <;> cases XS p t g ((PA p e).getD i dSArc).To.toNat <;> simp [bI]
 rw [hw, zs_PA] at hsum
 have e1 : S (fun i => bI (XS p t g (srcA (e i) i).From.toNat && !XS p t g (srcA (e i) i).To.toNat) (lf fl i) - bI (XS p t g (srcA (e i) i).To.toNat && !XS p t g (srcA (e i) i).From.toNat) (lf fl i)) p.Demands.length = 0 := S_none _ _ fun i hi => by
  unfold srcA
  simp only
  rw [Int.toNat_natCast, show (0 : Int).toNat = 0 from rfl, XS_low (show 0 < 2 + p.Demands.length by omega), XS_low (show 2 + i < 2 + p.Demands.length by omega)]
  rfl
 have e2 : S (fun i => S (fun u => bif us p (D p i) u then bI (XS p t g (useA p i u).From.toNat && !XS p t g (useA p i u).To.toNat) (lf fl (posU p i u)) - bI (XS p t g (useA p i u).To.toNat && !XS p t g (useA p i u).From.toNat) (lf fl (posU p i u)) else 0) p.Caps.length) p.Demands.length =
   - S (fun i => bI (B p (D p i).Feeder g) (give p fl i t)) p.Demands.length := by
  have hneg : ∀ (q : Nat → Int) (n : Nat), - S q n = S (fun i => - q i) n := fun q n => by
   induction n with
   | zero => rfl
   | succ n ih => rw [S_succ, S_succ, ← ih]; omega
  rw [hneg]
  refine S_congr fun i hi => ?_
  have hdem := h.dem i hi
  unfold okDem at hdem
  have hfd : (D p i).Feeder.toNat < p.Parents.length := by unfold D; omega
  have hfc : (((D p i).Feeder.toNat : Nat) : Int) = (D p i).Feeder := by unfold D; omega
  have hterm : ∀ u, (bif us p (D p i) u then bI (XS p t g (useA p i u).From.toNat && !XS p t g (useA p i u).To.toNat) (lf fl (posU p i u)) - bI (XS p t g (useA p i u).To.toNat && !XS p t g (useA p i u).From.toNat) (lf fl (posU p i u)) else 0) = bif us p (D p i) u then - bI (decide (u = t) && B p (D p i).Feeder g) (lf fl (posU p i u)) else 0 := fun u => by
   unfold useA
   simp only
   rw [Int.toNat_natCast, Int.toNat_natCast, XS_low (show 2 + i < 2 + p.Demands.length by omega), XS_nod u _ hfd, hfc]
   cases us p (D p i) u <;> cases decide (u = t) <;> cases B p (D p i).Feeder g <;> simp [bI]
  rw [S_congr fun u _ => hterm u, S_only _ t ht _ (fun u hu hut => ?_)]
  ·unfold give
   rw [decide_eq_true (rfl : t = t), Bool.true_and]
   cases us p (D p i) t <;> cases B p (D p i).Feeder g <;> simp [bI]
  ·rw [decide_eq_false hut, Bool.false_and]
   cases us p (D p i) u <;> rfl
 have e3 : S (fun u => S (fun f => bI (XS p t g (feedA p u f).From.toNat && !XS p t g (feedA p u f).To.toNat) (lf fl (p.Demands.length + (AllU p p.Demands.length).length + u * p.Parents.length + f)) - bI (XS p t g (feedA p u f).To.toNat && !XS p t g (feedA p u f).From.toNat) (lf fl (p.Demands.length + (AllU p p.Demands.length).length + u * p.Parents.length + f))) p.Parents.length) p.Caps.length =
   lf fl (p.Demands.length + (AllU p p.Demands.length).length + t * p.Parents.length + g) := by
  have hto : ∀ u f, f < p.Parents.length → XS p t g (up p u f) = (decide (u = t) && (decide (0 ≤ p.Parents.getD f 0) && B p (p.Parents.getD f 0) g)) := fun u f hf => by
   have hpar := h.par f hf
   unfold okPar at hpar
   unfold up
   by_cases a : 0 ≤ p.Parents.getD f 0
   ·rw [decide_eq_true a, cond_true, XS_nod u _ (by omega), show (((p.Parents.getD f 0).toNat : Nat) : Int) = p.Parents.getD f 0 by omega]
    rfl
   ·rw [decide_eq_false a, cond_false, XS_low (show 1 < 2 + p.Demands.length by omega)]
    simp
  rw [S_only _ t ht _ (fun u hu hut => ?_), S_only _ g hg _ (fun f hf hfg => ?_)]
  ·have hno : B p (p.Parents.getD g 0) g = false := by
    cases hq : B p (p.Parents.getD g 0) g with
    | false => rfl
    | true =>
     have hpar := h.par g hg
     unfold okPar at hpar
     have := bel_le h 64 _ g (by omega) hq
     omega
   unfold feedA
   simp only
   rw [Int.toNat_natCast, Int.toNat_natCast, XS_nod t g hg, hto t g hg, hno, B_self]
   simp [bI]
  ·unfold feedA
   simp only
   rw [Int.toNat_natCast, Int.toNat_natCast, XS_nod t f hf, hto t f hf, B_up h hf hfg]
   cases decide (0 ≤ p.Parents.getD f 0) && B p (p.Parents.getD f 0) g <;> simp [bI]
  ·refine S_none _ _ fun f hf => ?_
   unfold feedA
   simp only
   rw [Int.toNat_natCast, Int.toNat_natCast, XS_nod u f hf, hto u f hf, decide_eq_false hut]
   rfl
 rw [e1, e2, e3] at hsum
 omega
theorem through_plan (h : VP p) (F : Nat) (hF : 100000000000000000 ≤ F) (e : List Int) (hl : e.length = p.Demands.length) (hen : enOk e) (fl : List Int) (ht : Through p e fl) (l : List (List Int)) (hll : l.length = p.Demands.length)
  (hrow : ∀ i, i < p.Demands.length → (l.getD i []).length = p.Caps.length) (hX : ∀ i, i < p.Demands.length → ∀ u, u < p.Caps.length → X l i u = give p fl i u) : planOk p e l := by
 obtain ⟨t1, t2, t3⟩ := ht
 have hev : ∀ j, j < p.Demands.length → 0 ≤ ev e j ∧ ev e j ≤ 1099511627776 := fun j hj => hen j (by omega)
 have hAl : (PA p (ev e)).length = p.Demands.length + (AllU p p.Demands.length).length + p.Caps.length * p.Parents.length := by
  unfold PA
  simp only [List.length_append, Src_len, AllF_len]
 -- the flow of the demands' own arcs
 have hsrc : ∀ i, i < p.Demands.length → lf fl i = ev e i := by
  rw [out_src h] at t3
  refine S_eq_terms (fun i hi => ?_) t3
  have h1 := (t2.bd i (by rw [hAl]; omega)).2
  have h2 : aC (PA p (ev e)) i = ev e i := by
   unfold aC
   rw [PA_get _ hi]
   rfl
  omega
 have hul : ∀ i u, i < p.Demands.length → u < p.Caps.length → us p (D p i) u = true → posU p i u < (PA p (ev e)).length ∧ (PA p (ev e)).getD (posU p i u) dSArc = useA p i u := fun i u hi hu hus => by
  have hlast : ∀ n, u < n → (Us p i u).length < (Us p i n).length ∧ (Us p i n).getD (Us p i u).length dSArc = useA p i u := fun n => by
   induction n with
   | zero => intro hh; omega
   | succ n ih =>
    intro hh
    simp only [Us, List.length_append]
    by_cases hun : u = n
    ·subst hun
     rw [hus, cond_true]
     refine ⟨by simp, ?_⟩
     rw [getD_append, if_neg (Nat.lt_irrefl _), Nat.sub_self]
     rfl
    ·obtain ⟨i1, i2⟩ := ih (by omega)
     refine ⟨by omega, ?_⟩
     rw [getD_append, if_pos i1, i2]
  have hall : ∀ n, i < n → (AllU p i).length + (Us p i u).length < (AllU p n).length ∧ (AllU p n).getD ((AllU p i).length + (Us p i u).length) dSArc = useA p i u := fun n => by
   induction n with
   | zero => intro hh; omega
   | succ n ih =>
    intro hh
    simp only [AllU, List.length_append]
    by_cases hin : i = n
    ·subst hin
     obtain ⟨i1, i2⟩ := hlast p.Caps.length hu
     refine ⟨by omega, ?_⟩
     rw [getD_append, if_neg (by omega), Nat.add_sub_cancel_left, i2]
    ·obtain ⟨i1, i2⟩ := ih (by omega)
     refine ⟨by omega, ?_⟩
     rw [getD_append, if_pos i1, i2]
  obtain ⟨i1, i2⟩ := hall p.Demands.length hi
  unfold posU
  refine ⟨by rw [hAl]; omega, ?_⟩
  unfold PA
  rw [List.append_assoc, getD_append, Src_len, if_neg (by omega), getD_append, show p.Demands.length + (AllU p i).length + (Us p i u).length - p.Demands.length = (AllU p i).length + (Us p i u).length by omega, if_pos i1, i2]
 have hgive : ∀ i u, i < p.Demands.length → u < p.Caps.length → 0 ≤ give p fl i u ∧ give p fl i u ≤ (D p i).Max * p.Length ∧ (0 < give p fl i u → us p (D p i) u = true) := fun i u hi hu => by
  have hml := h.ml hi
  unfold give
  cases hus : us p (D p i) u with
  | false => exact ⟨Int.le_refl _, hml.1, fun hh => absurd hh (Int.lt_irrefl 0)⟩
  | true =>
   obtain ⟨i1, i2⟩ := hul i u hi hu hus
   have h1 := t2.bd _ i1
   have h2 : aC (PA p (ev e)) (posU p i u) = (D p i).Max * p.Length := by
    unfold aC
    rw [i2]
    rfl
   rw [h2] at h1
   exact ⟨h1.1, h1.2, fun _ => rfl⟩
 refine ⟨hl, hll, fun i hi => ⟨hrow i hi, fun u hu => ?_, ?_⟩, fun u hu g hg => ?_⟩
 ·unfold cellOk
  rw [hX i hi u hu]
  exact hgive i u hi hu
 ·have h1 := t2.cons (2 + i) (by unfold NN; omega) (by omega) (by omega)
  rw [out_dem h (ev e) (lf fl) fl rfl i hi, hsrc i hi] at h1
  rw [S_congr fun u hu => hX i hi u hu]
  show S (fun u => give p fl i u) p.Caps.length = ev e i
  omega
 ·have h1 := load_eq h F hF (ev e) hev fl t2 u g hu hg
  have hmul : (u + 1) * p.Parents.length ≤ p.Caps.length * p.Parents.length := Nat.mul_le_mul_right _ hu
  rw [Nat.succ_mul] at hmul
  have h2 := (t2.bd (p.Demands.length + (AllU p p.Demands.length).length + u * p.Parents.length + g) (by rw [hAl]; omega)).2
  have h3 : aC (PA p (ev e)) (p.Demands.length + (AllU p p.Demands.length).length + u * p.Parents.length + g) = lim p u g := by
   have hfs : ∀ n, g < n → (Fs p u n).getD g dSArc = feedA p u g := fun n => by
    induction n with
    | zero => intro hh; omega
    | succ n ih =>
     intro hh
     simp only [Fs]
     rw [getD_append, Fs_len]
     by_cases hgn : g < n
     ·rw [if_pos hgn, ih hgn]
     ·rw [if_neg hgn, show g - n = 0 by omega, show g = n by omega]
      rfl
   have haf : ∀ n, u < n → (AllF p n).getD (u * p.Parents.length + g) dSArc = feedA p u g := fun n => by
    induction n with
    | zero => intro hh; omega
    | succ n ih =>
     intro hh
     simp only [AllF]
     rw [getD_append, AllF_len]
     by_cases hun : u = n
     ·rw [if_neg (by rw [hun]; omega), hun, Nat.add_sub_cancel_left, ← hun, hfs _ hg]
     ·have hmul2 : (u + 1) * p.Parents.length ≤ n * p.Parents.length := Nat.mul_le_mul_right _ (by omega)
      rw [Nat.succ_mul] at hmul2
      rw [if_pos (by omega), ih (by omega)]
   unfold aC PA
   rw [getD_append, List.length_append, Src_len, if_neg (by omega), show p.Demands.length + (AllU p p.Demands.length).length + u * p.Parents.length + g - (p.Demands.length + (AllU p p.Demands.length).length) = u * p.Parents.length + g by omega, haf _ hu]
   rfl
  have h4 : lim p u g ≤ (p.Caps.getD u []).getD g 0 * p.Length := by
   unfold lim
   split <;> omega
  have h5 : S (fun i => con p l u g i) p.Demands.length = S (fun i => bI (B p (D p i).Feeder g) (give p fl i u)) p.Demands.length := S_congr fun i hi => by
   unfold con
   rw [hX i hi u hu]
  rw [h5, h1]
  omega
end
end Go.Proofs.Ytmiikbfacgmopaa.M
