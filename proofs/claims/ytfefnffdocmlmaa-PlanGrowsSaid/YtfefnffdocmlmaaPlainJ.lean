/- Plain laws of chapter 18: the networks that are built, the routes, and what the reference finds feasible. -/
import Derived.Test.YtfefnffdocmlmaaPlainI
namespace Go.Proofs.Ytfefnffdocmlmaa.M
open Go Go.Proofs Go.Proofs.Ytfefnffdocmlmaa.E Go.Proofs.Ytfefnffdocmlmaa.W
set_option linter.unusedVariables false
set_option linter.unusedSimpArgs false
section
variable {p : SProblem}
theorem nodW (h : VP p) {t : Nat} (ht : t < p.Caps.length) {f : Int} (h0 : 0 ≤ f) (hf : f < p.Parents.length) :
  IntKind.wrap .i64 (IntKind.wrap .i64 (IntKind.wrap .i64 (2 + (p.Demands.length : Int)) + IntKind.wrap .i64 ((t : Int) * (p.Parents.length : Int))) + f) = (nod p t f.toNat : Int) := by
 have h1 := h.nd
 have h2 := h.np
 have h3 : t * p.Parents.length ≤ 48 * 32 := Nat.mul_le_mul (by have := h.nc; omega) h2
 have e1 : (t : Int) * (p.Parents.length : Int) = ((t * p.Parents.length : Nat) : Int) := by simp
 rw [e1, Go.IntWalk.i64_in (2 + (p.Demands.length : Int)) (by omega), Go.IntWalk.i64_in ((t * p.Parents.length : Nat) : Int) (by omega), Go.IntWalk.i64_in (2 + (p.Demands.length : Int) + ((t * p.Parents.length : Nat) : Int)) (by omega), Go.IntWalk.i64_in (2 + (p.Demands.length : Int) + ((t * p.Parents.length : Nat) : Int) + f) (by omega)]
 unfold nod
 omega
theorem w2i {i : Nat} (hi : i < 1000000) : IntKind.wrap .i64 (2 + (i : Int)) = ((2 + i : Nat) : Int) := by
 rw [Go.IntWalk.i64_in _ (by omega)]; omega
theorem limW (h : VP p) {t f : Nat} (ht : t < p.Caps.length) (hf : f < p.Parents.length) :
  (if 1099511627776 < IntKind.wrap .i64 ((p.Caps.getD t []).getD f 0 * p.Length) then 1099511627776 else IntKind.wrap .i64 ((p.Caps.getD t []).getD f 0 * p.Length)) = lim p t f := by
 have h1 := h.cl ht hf
 rw [Go.IntWalk.i64_in ((p.Caps.getD t []).getD f 0 * p.Length) (by omega)]
 rfl
theorem nsrc_l (h : VP p) (F : Nat) : ∀ (k i : Nat), i ≤ p.Demands.length → p.Demands.length < k + i → plan_network_own_l187 F p k (i : Int) (Src (fun _ => 0) i) = plan_network_own_p180 F p (Src (fun _ => 0) p.Demands.length)
 | 0, i, h1, h2 => by omega
 | k + 1, i, h1, h2 => by
  have hnd := h.nd
  simp only [plan_network_own_l187, plan_network_own_b187]
  by_cases hi : i < p.Demands.length
  ·rw [decide_eq_true (show (i : Int) < (p.Demands.length : Int) by omega), cond_true, guard_pos (by simp only [List.length_cons, List.length_nil, Src_len]; omega), wsucc i (by omega), w2i (by omega)]
   exact nsrc_l h F k (i + 1) (by omega) (by omega)
  ·have : i = p.Demands.length := by omega
   subst this
   rw [decide_eq_false (show ¬ ((p.Demands.length : Int) < (p.Demands.length : Int)) by omega), cond_false]
theorem nuse_l (h : VP p) (F : Nat) (i : Nat) (hi : i < p.Demands.length) (K : Int → List SArc → Option SNet) (o : List SArc) (ho : o.length ≤ 10000) : ∀ (k t : Nat), t ≤ p.Caps.length → p.Caps.length < k + t → plan_network_own_l172 F p (i : Int) K k (t : Int) (o ++ Us p i t) = plan_network_own_p154 (i : Int) K (o ++ Us p i p.Caps.length)
 | 0, t, h1, h2 => by omega
 | k + 1, t, h1, h2 => by
  have hnc := h.nc
  have hnd := h.nd
  simp only [plan_network_own_l172, plan_network_own_b172]
  by_cases ht : t < p.Caps.length
  ·have ih := nuse_l h F i hi K o ho k (t + 1) (by omega) (by omega)
   have hdem := h.dem i hi
   unfold okDem at hdem
   have hml := h.ml hi
   have hul := Us_len p i t
   simp only [Us] at ih
   rw [decide_eq_true (show (t : Int) < (p.Caps.length : Int) by omega), cond_true, Int.toNat_natCast, show p.Demands.getD i dSDemand = D p i from rfl, (usable_eq h F (D p i) ht).1, Option.bind_some]
   unfold plan_network_own_p175
   rw [wsucc t (by omega)]
   cases hu : us p (D p i) t with
   | true =>
    rw [hu, cond_true] at ih
    rw [cond_true, guard_pos (by simp only [List.length_cons, List.length_nil, List.length_append]; omega), w2i (by omega), nodW h ht (by unfold D; omega) (by unfold D; omega), Go.IntWalk.i64_in ((D p i).Max * p.Length) (by omega), List.append_assoc]
    exact ih
   | false =>
    rw [hu, cond_false, List.append_nil] at ih
    rw [cond_false]
    exact ih
  ·have : t = p.Caps.length := by omega
   subst this
   rw [decide_eq_false (show ¬ ((p.Caps.length : Int) < (p.Caps.length : Int)) by omega), cond_false]
theorem nuses_l (h : VP p) (F : Nat) (hF : 100000000000000000 ≤ F) (o : List SArc) (ho : o.length ≤ 100) : ∀ (k i : Nat), i ≤ p.Demands.length → p.Demands.length < k + i → plan_network_own_l151 F p k (i : Int) (o ++ AllU p i) = plan_network_own_p92 F p (o ++ AllU p p.Demands.length)
 | 0, i, h1, h2 => by omega
 | k + 1, i, h1, h2 => by
  have hnc := h.nc
  have hnd := h.nd
  simp only [plan_network_own_l151, plan_network_own_b151]
  by_cases hi : i < p.Demands.length
  ·have hal := AllU_len p i
   have hm : i * p.Caps.length ≤ 16 * 48 := Nat.mul_le_mul (by omega) hnc
   have e1 := nuse_l h F i hi (fun t50_121 o4_122 => plan_network_own_l151 F p k t50_121 o4_122) (o ++ AllU p i) (by simp only [List.length_append]; omega) F 0 (by omega) (by omega)
   simp only [Us, List.append_nil] at e1
   rw [decide_eq_true (show (i : Int) < (p.Demands.length : Int) by omega), cond_true, guard_pos (show (0 : Int) ≤ (i : Int) ∧ (i : Int) < (p.Demands.length : Int) by omega)]
   refine Eq.trans e1 ?_
   unfold plan_network_own_p154
   rw [wsucc i (by omega), List.append_assoc]
   exact nuses_l h F hF o ho k (i + 1) (by omega) (by omega)
  ·have : i = p.Demands.length := by omega
   subst this
   rw [decide_eq_false (show ¬ ((p.Demands.length : Int) < (p.Demands.length : Int)) by omega), cond_false]
theorem nfeed_l (h : VP p) (t : Nat) (ht : t < p.Caps.length) (K : Int → List SArc → Option SNet) (o : List SArc) (ho : o.length ≤ 10000) : ∀ (k f : Nat), f ≤ p.Parents.length → p.Parents.length < k + f → plan_network_own_l84 p (t : Int) K k (f : Int) (o ++ Fs p t f) = plan_network_own_p66 (t : Int) K (o ++ Fs p t p.Parents.length)
 | 0, f, h1, h2 => by omega
 | k + 1, f, h1, h2 => by
  have hnp := h.np
  have hcl := h.caplen t ht
  simp only [plan_network_own_l84, plan_network_own_b84]
  by_cases hf : f < p.Parents.length
  ·have ih := nfeed_l h t ht K o ho k (f + 1) (by omega) (by omega)
   have hpar := h.par f hf
   unfold okPar at hpar
   have hnode : IntKind.wrap .i64 (IntKind.wrap .i64 (IntKind.wrap .i64 (2 + (p.Demands.length : Int)) + IntKind.wrap .i64 ((t : Int) * (p.Parents.length : Int))) + (f : Int)) = (nod p t f : Int) := by
    have := nodW h ht (f := (f : Int)) (by omega) (by omega)
    rw [Int.toNat_natCast] at this
    exact this
   have key : ∀ to : Int, to = (up p t f : Int) → plan_network_own_p90 p (t : Int) (f : Int) (o ++ Fs p t f) (fun t105_75 o4_76 => plan_network_own_l84 p (t : Int) K k t105_75 o4_76) to = plan_network_own_p66 (t : Int) K (o ++ Fs p t p.Parents.length) := by
    rintro _ rfl
    unfold plan_network_own_p90
    rw [Int.toNat_natCast, Int.toNat_natCast, guard_pos (show (0 : Int) ≤ (f : Int) ∧ (f : Int) < ((p.Caps.getD t []).length : Int) by omega), guard_pos (by simp only [List.length_cons, List.length_nil, List.length_append, Fs_len]; omega), hnode, limW h ht hf, wsucc f (by omega), List.append_assoc]
    exact ih
   rw [decide_eq_true (show (f : Int) < (p.Parents.length : Int) by omega), cond_true, guard_pos (show (0 : Int) ≤ (f : Int) ∧ (f : Int) < (p.Parents.length : Int) by omega), Int.toNat_natCast]
   by_cases a : 0 ≤ p.Parents.getD f 0
   ·rw [decide_eq_true a, cond_true]
    refine key _ ?_
    rw [nodW h ht a (by omega)]
    unfold up
    rw [decide_eq_true a, cond_true]
   ·rw [decide_eq_false a, cond_false]
    refine key _ ?_
    unfold up
    rw [decide_eq_false a, cond_false]
    rfl
  ·have : f = p.Parents.length := by omega
   subst this
   rw [decide_eq_false (show ¬ ((p.Parents.length : Int) < (p.Parents.length : Int)) by omega), cond_false]
theorem NNw (h : VP p) : IntKind.wrap .i64 (IntKind.wrap .i64 (2 + (p.Demands.length : Int)) + IntKind.wrap .i64 ((p.Caps.length : Int) * (p.Parents.length : Int))) = (NN p : Int) := by
 have h1 := h.nodes
 have h3 : p.Caps.length * p.Parents.length ≤ 256 := by omega
 have e1 : (p.Caps.length : Int) * (p.Parents.length : Int) = ((p.Caps.length * p.Parents.length : Nat) : Int) := by simp
 rw [e1, Go.IntWalk.i64_in (2 + (p.Demands.length : Int)) (by omega), Go.IntWalk.i64_in ((p.Caps.length * p.Parents.length : Nat) : Int) (by omega), Go.IntWalk.i64_in _ (by omega)]
 unfold NN
 omega
theorem nfeeds_l (h : VP p) (F : Nat) (hF : 100000000000000000 ≤ F) (o : List SArc) (ho : o.length ≤ 1000) : ∀ (k t : Nat), t ≤ p.Caps.length → p.Caps.length < k + t → plan_network_own_l63 F p k (t : Int) (o ++ AllF p t) = some ⟨(NN p : Int), o ++ AllF p p.Caps.length⟩
 | 0, i, h1, h2 => by omega
 | k + 1, t, h1, h2 => by
  have hnc := h.nc
  have hnp := h.np
  simp only [plan_network_own_l63, plan_network_own_b63]
  by_cases ht : t < p.Caps.length
  ·have hal := AllF_len p t
   have hm : t * p.Parents.length ≤ 48 * 32 := Nat.mul_le_mul (by omega) hnp
   have e1 := nfeed_l h t ht (fun t92_33 o4_34 => plan_network_own_l63 F p k t92_33 o4_34) (o ++ AllF p t) (by simp only [List.length_append]; omega) F 0 (by omega) (by omega)
   simp only [Fs, List.append_nil] at e1
   rw [decide_eq_true (show (t : Int) < (p.Caps.length : Int) by omega), cond_true, guard_pos (show (0 : Int) ≤ (t : Int) ∧ (t : Int) < (p.Caps.length : Int) by omega)]
   refine Eq.trans e1 ?_
   unfold plan_network_own_p66
   rw [wsucc t (by omega), List.append_assoc]
   exact nfeeds_l h F hF o ho k (t + 1) (by omega) (by omega)
  ·have : t = p.Caps.length := by omega
   subst this
   rw [decide_eq_false (show ¬ ((p.Caps.length : Int) < (p.Caps.length : Int)) by omega), cond_false]
   unfold plan_network_own_p4
   rw [NNw h]
theorem network_eq (h : VP p) (F : Nat) (hF : 100000000000000000 ≤ F) : plan_network_own F p = some ⟨(NN p : Int), PA p (fun _ => 0)⟩ := by
 have hnd := h.nd
 have hnc := h.nc
 have hpr := h.prod
 have hal := AllU_len p p.Demands.length
 have e1 := nsrc_l h F F 0 (by omega) (by omega)
 have e2 := nuses_l h F hF (Src (fun _ => 0) p.Demands.length) (by rw [Src_len]; omega) F 0 (by omega) (by omega)
 have e3 := nfeeds_l h F hF (Src (fun _ => 0) p.Demands.length ++ AllU p p.Demands.length) (by simp only [List.length_append, Src_len]; omega) F 0 (by omega) (by omega)
 simp only [AllU, AllF, List.append_nil] at e2 e3
 unfold plan_network_own
 refine Eq.trans e1 (Eq.trans ?_ (Eq.trans e2 (Eq.trans ?_ e3)))
 ·rfl
 ·rfl
theorem rnode_eq (F : Nat) (h : VP p) {t : Nat} (ht : t < p.Caps.length) {f : Int} (h0 : 0 ≤ f) (hf : f < p.Parents.length) : chargenetref18_node F p (t : Int) f = some (nod p t f.toNat : Int) := by
 unfold chargenetref18_node
 rw [nodW h ht h0 hf]
theorem rnuse_l (h : VP p) (F : Nat) (i : Nat) (hi : i < p.Demands.length) (K : Int → List SArc → Option SNet) (o : List SArc) (ho : o.length ≤ 10000) : ∀ (k t : Nat), t ≤ p.Caps.length → p.Caps.length < k + t → chargenetref18_network_l238 F p (i : Int) K k (t : Int) (o ++ Us p i t) = chargenetref18_network_p214 (i : Int) K (o ++ Us p i p.Caps.length)
 | 0, t, h1, h2 => by omega
 | k + 1, t, h1, h2 => by
  have hnc := h.nc
  have hnd := h.nd
  simp only [chargenetref18_network_l238, chargenetref18_network_b238]
  by_cases ht : t < p.Caps.length
  ·have ih := rnuse_l h F i hi K o ho k (t + 1) (by omega) (by omega)
   have hdem := h.dem i hi
   unfold okDem at hdem
   have hml := h.ml hi
   have hul := Us_len p i t
   simp only [Us] at ih
   rw [decide_eq_true (show (t : Int) < (p.Caps.length : Int) by omega), cond_true, Int.toNat_natCast, show p.Demands.getD i dSDemand = D p i from rfl, (usable_eq h F (D p i) ht).2, Option.bind_some, rnode_eq F h ht (by unfold D; omega) (by unfold D; omega), Option.bind_some]
   unfold chargenetref18_network_p241
   rw [wsucc t (by omega)]
   cases hu : us p (D p i) t with
   | true =>
    rw [hu, cond_true] at ih
    rw [cond_true, guard_pos (by simp only [List.length_cons, List.length_nil, List.length_append]; omega), w2i (by omega), Go.IntWalk.i64_in ((D p i).Max * p.Length) (by omega), List.append_assoc]
    exact ih
   | false =>
    rw [hu, cond_false, List.append_nil] at ih
    rw [cond_false]
    exact ih
  ·have : t = p.Caps.length := by omega
   subst this
   rw [decide_eq_false (show ¬ ((p.Caps.length : Int) < (p.Caps.length : Int)) by omega), cond_false]
theorem rnuses_l (h : VP p) (F : Nat) (hF : 100000000000000000 ≤ F) (e : List Int) (he : e.length = p.Demands.length) : ∀ (k i : Nat), i ≤ p.Demands.length → p.Demands.length < k + i → chargenetref18_network_l211 F p e k (i : Int) (RefD p (fun j => e.getD j 0) i) = chargenetref18_network_p136 F p (RefD p (fun j => e.getD j 0) p.Demands.length)
 | 0, i, h1, h2 => by omega
 | k + 1, i, h1, h2 => by
  have hnc := h.nc
  have hnd := h.nd
  simp only [chargenetref18_network_l211, chargenetref18_network_b211]
  by_cases hi : i < p.Demands.length
  ·have hal := RefD_len p (fun j => e.getD j 0) i
   have hm : i * p.Caps.length ≤ 16 * 48 := Nat.mul_le_mul (by omega) hnc
   have e1 := rnuse_l h F i hi (fun t30_173 o4_174 => chargenetref18_network_l211 F p e k t30_173 o4_174) (RefD p (fun j => e.getD j 0) i ++ [srcA (e.getD i 0) i]) (by simp only [List.length_append, List.length_singleton]; omega) F 0 (by omega) (by omega)
   simp only [Us, List.append_nil] at e1
   rw [decide_eq_true (show (i : Int) < (p.Demands.length : Int) by omega), cond_true, guard_pos (show (0 : Int) ≤ (i : Int) ∧ (i : Int) < (p.Demands.length : Int) by omega), guard_pos (show (0 : Int) ≤ (i : Int) ∧ (i : Int) < (e.length : Int) by omega), guard_pos (by simp only [List.length_cons, List.length_nil]; omega), w2i (by omega), Int.toNat_natCast]
   refine Eq.trans e1 ?_
   unfold chargenetref18_network_p214
   rw [wsucc i (by omega)]
   exact rnuses_l h F hF e he k (i + 1) (by omega) (by omega)
  ·have : i = p.Demands.length := by omega
   subst this
   rw [decide_eq_false (show ¬ ((p.Demands.length : Int) < (p.Demands.length : Int)) by omega), cond_false]
theorem rnfeed_l (h : VP p) (F : Nat) (t : Nat) (ht : t < p.Caps.length) (K : Int → List SArc → Option SNet) (o : List SArc) (ho : o.length ≤ 10000) : ∀ (k f : Nat), f ≤ p.Parents.length → p.Parents.length < k + f → chargenetref18_network_l123 F p (t : Int) K k (f : Int) (o ++ Fs p t f) = chargenetref18_network_p95 (t : Int) K (o ++ Fs p t p.Parents.length)
 | 0, f, h1, h2 => by omega
 | k + 1, f, h1, h2 => by
  have hnp := h.np
  have hcl := h.caplen t ht
  simp only [chargenetref18_network_l123, chargenetref18_network_b123]
  rw [Int.toNat_natCast, Int.toNat_natCast]
  by_cases hf : f < p.Parents.length
  ·have ih := rnfeed_l h F t ht K o ho k (f + 1) (by omega) (by omega)
   have hpar := h.par f hf
   unfold okPar at hpar
   have key : ∀ to : Int, to = (up p t f : Int) → chargenetref18_network_p130 F p (t : Int) (f : Int) (o ++ Fs p t f) (fun t87_109 o4_110 => chargenetref18_network_l123 F p (t : Int) K k t87_109 o4_110) to = chargenetref18_network_p95 (t : Int) K (o ++ Fs p t p.Parents.length) := by
    rintro _ rfl
    unfold chargenetref18_network_p130
    rw [rnode_eq F h ht (f := (f : Int)) (by omega) (by omega), Option.bind_some, Int.toNat_natCast, Int.toNat_natCast, guard_pos (by simp only [List.length_cons, List.length_nil, List.length_append, Fs_len]; omega), limW h ht hf, wsucc f (by omega), List.append_assoc]
    exact ih
   rw [decide_eq_true (show (f : Int) < ((p.Caps.getD t []).length : Int) by omega), cond_true, guard_pos (show (0 : Int) ≤ (f : Int) ∧ (f : Int) < ((p.Caps.getD t []).length : Int) by omega), guard_pos (show (0 : Int) ≤ (f : Int) ∧ (f : Int) < (p.Parents.length : Int) by omega)]
   by_cases a : 0 ≤ p.Parents.getD f 0
   ·rw [decide_eq_true a, cond_true, guard_pos (show (0 : Int) ≤ (f : Int) ∧ (f : Int) < (p.Parents.length : Int) by omega), rnode_eq F h ht a (by omega), Option.bind_some]
    refine key _ ?_
    unfold up
    rw [decide_eq_true a, cond_true]
   ·rw [decide_eq_false a, cond_false]
    refine key _ ?_
    unfold up
    rw [decide_eq_false a, cond_false]
    rfl
  ·have : f = p.Parents.length := by omega
   subst this
   rw [decide_eq_false (show ¬ ((p.Parents.length : Int) < ((p.Caps.getD t []).length : Int)) by omega), cond_false]
theorem rnfeeds_l (h : VP p) (F : Nat) (hF : 100000000000000000 ≤ F) (o : List SArc) (ho : o.length ≤ 1000) : ∀ (k t : Nat), t ≤ p.Caps.length → p.Caps.length < k + t → chargenetref18_network_l92 F p k (t : Int) (o ++ AllF p t) = some ⟨(NN p : Int), o ++ AllF p p.Caps.length⟩
 | 0, i, h1, h2 => by omega
 | k + 1, t, h1, h2 => by
  have hnc := h.nc
  have hnp := h.np
  simp only [chargenetref18_network_l92, chargenetref18_network_b92]
  by_cases ht : t < p.Caps.length
  ·have hal := AllF_len p t
   have hm : t * p.Parents.length ≤ 48 * 32 := Nat.mul_le_mul (by omega) hnp
   have e1 := rnfeed_l h F t ht (fun t80_47 o4_48 => chargenetref18_network_l92 F p k t80_47 o4_48) (o ++ AllF p t) (by simp only [List.length_append]; omega) F 0 (by omega) (by omega)
   simp only [Fs, List.append_nil] at e1
   rw [decide_eq_true (show (t : Int) < (p.Caps.length : Int) by omega), cond_true, guard_pos (show (0 : Int) ≤ (t : Int) ∧ (t : Int) < (p.Caps.length : Int) by omega)]
   refine Eq.trans e1 ?_
   unfold chargenetref18_network_p95
   rw [wsucc t (by omega), List.append_assoc]
   exact rnfeeds_l h F hF o ho k (t + 1) (by omega) (by omega)
  ·have : t = p.Caps.length := by omega
   subst this
   rw [decide_eq_false (show ¬ ((p.Caps.length : Int) < (p.Caps.length : Int)) by omega), cond_false]
   unfold chargenetref18_network_p3
   rw [NNw h]
theorem rnetwork_eq (h : VP p) (F : Nat) (hF : 100000000000000000 ≤ F) (e : List Int) (he : e.length = p.Demands.length) : chargenetref18_network F p e = some ⟨(NN p : Int), RA p (fun j => e.getD j 0)⟩ := by
 have hnd := h.nd
 have hnc := h.nc
 have hpr := h.prod
 have hal := RefD_len p (fun j => e.getD j 0) p.Demands.length
 have e1 := rnuses_l h F hF e he F 0 (by omega) (by omega)
 have e3 := rnfeeds_l h F hF (RefD p (fun j => e.getD j 0) p.Demands.length) (by omega) F 0 (by omega) (by omega)
 simp only [AllF, List.append_nil] at e3
 unfold chargenetref18_network
 exact Eq.trans e1 e3
def upd (e : Nat → Int) (i : Nat) (x : Int) (j : Nat) : Int := if j = i then x else e j
theorem Src_congr {e e' : Nat → Int} : ∀ n, (∀ i, i < n → e i = e' i) → Src e n = Src e' n
 | 0, _ => rfl
 | n + 1, h => by simp only [Src]; rw [Src_congr n (fun i hi => h i (by omega)), h n (by omega)]
theorem PA_congr {e e' : Nat → Int} (h : ∀ i, i < p.Demands.length → e i = e' i) : PA p e = PA p e' := by
 unfold PA
 rw [Src_congr _ h]
theorem Src_get (e : Nat → Int) : ∀ (n i : Nat), i < n → (Src e n).getD i dSArc = srcA (e i) i
 | 0, i, h => by omega
 | n + 1, i, h => by
  simp only [Src]
  rw [getD_append, Src_len]
  by_cases hi : i < n
  ·rw [if_pos hi, Src_get e n i hi]
  ·rw [if_neg hi]
   have : i = n := by omega
   subst this
   simp
theorem Src_set (e : Nat → Int) (i : Nat) (x : Int) : ∀ n, i < n → (Src e n).set i (srcA x i) = Src (upd e i x) n
 | 0, h => by omega
 | n + 1, h => by
  simp only [Src]
  by_cases hi : i < n
  ·rw [List.set_append_left _ _ (by rw [Src_len]; exact hi), Src_set e i x n hi]
   have : upd e i x n = e n := if_neg (by omega)
   rw [this]
  ·have hin : i = n := by omega
   subst hin
   rw [List.set_append_right _ _ (by rw [Src_len]; omega), Src_len, Nat.sub_self]
   have e1 : Src (upd e i x) i = Src e i := Src_congr _ (fun j hj => if_neg (by omega))
   have e2 : upd e i x i = x := if_pos rfl
   rw [e1, e2]
   rfl
theorem PA_get (e : Nat → Int) {i : Nat} (hi : i < p.Demands.length) : (PA p e).getD i dSArc = srcA (e i) i := by
 unfold PA
 rw [List.append_assoc, getD_append, Src_len, if_pos hi, Src_get e _ i hi]
theorem PA_set (e : Nat → Int) {i : Nat} (x : Int) (hi : i < p.Demands.length) : (PA p e).set i (srcA x i) = PA p (upd e i x) := by
 unfold PA
 rw [List.append_assoc, List.append_assoc, List.set_append_left _ _ (by rw [Src_len]; exact hi), Src_set e i x _ hi]
theorem S_bd {e : Nat → Int} : ∀ (n : Nat), (∀ i, i < n → 0 ≤ e i ∧ e i ≤ 1099511627776) → 0 ≤ S e n ∧ S e n ≤ 1099511627776 * n
 | 0, _ => by simp [S]
 | n + 1, h => by
  have h1 := S_bd n (fun i hi => h i (by omega))
  have h2 := h n (by omega)
  rw [S_succ]
  omega
theorem PA_good (h : VP p) (F : Nat) (hF : 100000000000000000 ≤ F) {e : Nat → Int} (he : ∀ i, i < p.Demands.length → 0 ≤ e i ∧ e i ≤ 1099511627776) : GoodNet ⟨(NN p : Int), PA p e⟩ (NN p) ∧ flow_valid F ⟨(NN p : Int), PA p e⟩ 0 1 = some 0 ∧ chargenetref09_Ends F ⟨(NN p : Int), PA p e⟩ 0 1 = some 0 :=
 good_net h F hF _ (PA_len h e) (fun a ha => by
  unfold PA at ha
  rcases List.mem_append.1 ha with ha | ha
  ·rcases List.mem_append.1 ha with ha | ha
   ·exact Src_ok he _ (Nat.le_refl _) a ha
   ·exact AllU_ok h _ (Nat.le_refl _) a ha
  ·exact AllF_ok h _ (Nat.le_refl _) a ha)
theorem RA_good (h : VP p) (F : Nat) (hF : 100000000000000000 ≤ F) {e : Nat → Int} (he : ∀ i, i < p.Demands.length → 0 ≤ e i ∧ e i ≤ 1099511627776) : GoodNet ⟨(NN p : Int), RA p e⟩ (NN p) ∧ flow_valid F ⟨(NN p : Int), RA p e⟩ 0 1 = some 0 ∧ chargenetref09_Ends F ⟨(NN p : Int), RA p e⟩ 0 1 = some 0 :=
 good_net h F hF _ (RA_len h e) (fun a ha => by
  unfold RA at ha
  rcases List.mem_append.1 ha with ha | ha
  ·exact RefD_ok h he _ (Nat.le_refl _) a ha
  ·exact AllF_ok h _ (Nat.le_refl _) a ha)
def ev (l : List Int) (i : Nat) : Int := l.getD i 0
def Through (p : SProblem) (l : List Int) (fl : List Int) : Prop := fl.length = (PA p (ev l)).length ∧ Flow (PA p (ev l)) (NN p) 0 1 (lf fl) ∧ out (PA p (ev l)) (lf fl) 0 = S (ev l) p.Demands.length
theorem route_l (h : VP p) (F : Nat) (hF : 100000000000000000 ≤ F) (A : List SArc) (l : List Int) (hl : l.length = p.Demands.length) (hen : enOk l) : ∀ (k i : Nat) (e : Nat → Int), i ≤ p.Demands.length → p.Demands.length < k + i → (∀ j, j < i → e j = ev l j) →
  ∃ fl ok, plan_route_l16 F ⟨(NN p : Int), A⟩ l k (S (ev l) i) (i : Int) (PA p e) = some (fl, ok, PA p (ev l)) ∧ (ok = true ↔ Fit p (ev l)) ∧ (ok = true → Through p l fl)
 | 0, i, e, h1, h2, _ => by omega
 | k + 1, i, e, h1, h2, he => by
  have hnd := h.nd
  have hev : ∀ j, j < p.Demands.length → 0 ≤ ev l j ∧ ev l j ≤ 1099511627776 := fun j hj => hen j (by omega)
  simp only [plan_route_l16, plan_route_b16]
  rw [Int.toNat_natCast]
  by_cases hi : i < p.Demands.length
  ·have hs := S_bd i (fun j hj => hev j (by omega))
   have hx := hev i hi
   have hpl : p.Demands.length ≤ (PA p e).length := by unfold PA; simp only [List.length_append, Src_len]; omega
   rw [decide_eq_true (show (i : Int) < (l.length : Int) by omega), cond_true, guard_pos (show (0 : Int) ≤ (i : Int) ∧ (i : Int) < (l.length : Int) by omega), guard_pos (show (0 : Int) ≤ (i : Int) ∧ (i : Int) < ((PA p e).length : Int) by omega), PA_get e hi, show l.getD i 0 = ev l i from rfl, Go.IntWalk.i64_in (S (ev l) i + ev l i) (by omega), wsucc i (by omega)]
   have e1 : SArc.mk (srcA (e i) i).From (srcA (e i) i).To (ev l i) = srcA (ev l i) i := rfl
   rw [e1, PA_set e _ hi]
   exact route_l h F hF A l hl hen k (i + 1) (upd e i (ev l i)) (by omega) (by omega) (fun j hj => by
    unfold upd
    by_cases hji : j = i
    ·rw [if_pos hji, hji]
    ·rw [if_neg hji]; exact he j (by omega))
  ·have hin : i = p.Demands.length := by omega
   subst hin
   rw [decide_eq_false (show ¬ ((p.Demands.length : Int) < (l.length : Int)) by omega), cond_false]
   unfold plan_route_p6
   rw [PA_congr he]
   obtain ⟨g1, g2, g3⟩ := PA_good h F hF hev
   have hN : 2 ≤ NN p := by unfold NN; omega
   obtain ⟨fl, R, ll, m1, m2, m3, m4⟩ := max_eq F hF ⟨(NN p : Int), PA p (ev l)⟩ (NN p) g1 0 1 (by omega) (by omega) (by omega) g2
   rw [show ((0 : Nat) : Int) = 0 from rfl, show ((1 : Nat) : Int) = 1 from rfl] at m1
   rw [m1, Option.bind_some, decide_eq_true rfl, cond_true]
   have hv := val_fit h (PA p (ev l)) g1.net (fun X h0 => cap_PA X h0 (ev l)) m2
   refine ⟨ll, _, rfl, ⟨fun hh => hv.1 (of_decide_eq_true hh), fun hh => decide_eq_true (hv.2 hh)⟩, fun hh => ⟨m3, m2.flow.congr (fun j hj => lf_eq m4 j hj), ?_⟩⟩
   rw [← out_congr (fun j hj => lf_eq m4 j hj)]
   exact of_decide_eq_true hh
theorem route_eq (h : VP p) (F : Nat) (hF : 100000000000000000 ≤ F) (e : Nat → Int) (l : List Int) (hl : l.length = p.Demands.length) (hen : enOk l) :
  ∃ fl ok, plan_route F ⟨(NN p : Int), PA p e⟩ l = some (fl, ok, PA p (ev l)) ∧ (ok = true ↔ Fit p (ev l)) ∧ (ok = true → Through p l fl) := by
 have hnd := h.nd
 obtain ⟨fl, ok, r1, r2⟩ := route_l h F hF (PA p e) l hl hen F 0 e (by omega) (by omega) (fun j hj => by omega)
 exact ⟨fl, ok, r1, r2⟩
theorem flows_eq (h : VP p) (F : Nat) (hF : 100000000000000000 ≤ F) (l : List Int) (hl : l.length = p.Demands.length) (hen : enOk l) : ∃ v ll, chargenetref18_flows F p l = some (v, ll) ∧ ll.length = (RA p (ev l)).length ∧ (v = S (ev l) p.Demands.length ↔ Fit p (ev l)) := by
 have hev : ∀ j, j < p.Demands.length → 0 ≤ ev l j ∧ ev l j ≤ 1099511627776 := fun j hj => hen j (by omega)
 obtain ⟨g1, g2, g3⟩ := RA_good h F hF hev
 have hN : 2 ≤ NN p := by unfold NN; omega
 obtain ⟨ll, R, m1, m2, m3⟩ := rmax_eq F hF g1 (s := 0) (t := 1) (by omega) (by omega) (by omega) g3
 rw [show ((0 : Nat) : Int) = 0 from rfl, show ((1 : Nat) : Int) = 1 from rfl] at m1
 refine ⟨_, ll, ?_, m2, val_fit h (RA p (ev l)) g1.net (fun X h0 => by rw [cap_RA, cap_PA X h0]) m3⟩
 unfold chargenetref18_flows
 rw [rnetwork_eq h F hF l hl]
 simp only [Option.bind_some]
 rw [show (fun j => l.getD j 0) = ev l from rfl, m1]
 rfl
theorem fits_l (h : VP p) (F : Nat) (hF : 100000000000000000 ≤ F) (l : List Int) (hl : l.length = p.Demands.length) (hen : enOk l) : ∀ (k i : Nat), i ≤ p.Demands.length → p.Demands.length < k + i → ∃ b, chargenetref18_fits_l11 F p l k (S (ev l) i) (i : Int) = some b ∧ (b = true ↔ Fit p (ev l))
 | 0, i, h1, h2 => by omega
 | k + 1, i, h1, h2 => by
  have hnd := h.nd
  have hev : ∀ j, j < p.Demands.length → 0 ≤ ev l j ∧ ev l j ≤ 1099511627776 := fun j hj => hen j (by omega)
  simp only [chargenetref18_fits_l11, chargenetref18_fits_b11]
  rw [Int.toNat_natCast]
  by_cases hi : i < p.Demands.length
  ·have hs := S_bd i (fun j hj => hev j (by omega))
   have hx := hev i hi
   rw [decide_eq_true (show (i : Int) < (l.length : Int) by omega), cond_true, guard_pos (show (0 : Int) ≤ (i : Int) ∧ (i : Int) < (l.length : Int) by omega), show l.getD i 0 = ev l i from rfl, Go.IntWalk.i64_in (S (ev l) i + ev l i) (by omega), wsucc i (by omega)]
   exact fits_l h F hF l hl hen k (i + 1) (by omega) (by omega)
  ·have hin : i = p.Demands.length := by omega
   subst hin
   rw [decide_eq_false (show ¬ ((p.Demands.length : Int) < (l.length : Int)) by omega), cond_false]
   unfold chargenetref18_fits_p4
   obtain ⟨v, ll, f1, f2, f3⟩ := flows_eq h F hF l hl hen
   rw [f1, Option.bind_some]
   exact ⟨_, rfl, ⟨fun hh => f3.1 (of_decide_eq_true hh), fun hh => decide_eq_true (f3.2 hh)⟩⟩
theorem fits_eq (h : VP p) (F : Nat) (hF : 100000000000000000 ≤ F) (l : List Int) (hl : l.length = p.Demands.length) (hen : enOk l) : ∃ b, chargenetref18_fits F p l = some b ∧ (b = true ↔ Fit p (ev l)) := by
 have hnd := h.nd
 exact fits_l h F hF l hl hen F 0 (by omega) (by omega)
theorem feasible_eq (h : VP p) (F : Nat) (hF : 100000000000000000 ≤ F) (hv : plan_Valid F p = some 0) (hv2 : chargenetref18_Valid F p = some 0) (l : List Int) : ∃ b r, plan_Feasible F p l = some (b, r) ∧ chargenetref18_Feasible F p l = some (b, r) ∧ (r = 0 ↔ l.length = p.Demands.length ∧ enOk l) ∧ (r = 0 → (b = true ↔ Fit p (ev l))) := by
 obtain ⟨r, r1, r2, r3, r4⟩ := energies_eq h F hF hv hv2 l
 unfold plan_Feasible chargenetref18_Feasible
 rw [r1, r2]
 simp only [Option.bind_some]
 by_cases a : r = 0
 ·obtain ⟨hl, hen⟩ := r4.1 a
  rw [decide_eq_true a, Bool.not_true, cond_false, cond_false, network_eq h F hF]
  obtain ⟨fl, ok, q1, q2, _⟩ := route_eq h F hF (fun _ => 0) l hl hen
  obtain ⟨b, b1, b2⟩ := fits_eq h F hF l hl hen
  have hb : b = ok := by
   have h3 := b2.trans q2.symm
   cases b <;> cases ok <;> simp_all
  simp only [Option.bind_some]
  rw [q1, b1]
  simp only [Option.bind_some]
  rw [guard_pos (by unfold PA; simp only [List.length_append, Src_len])]
  exact ⟨ok, 0, rfl, by rw [hb], ⟨fun _ => r4.1 a, fun _ => rfl⟩, fun _ => q2⟩
 ·rw [decide_eq_false a]
  exact ⟨false, r, rfl, rfl, r4, fun hh => absurd hh a⟩
end
end Go.Proofs.Ytfefnffdocmlmaa.M
