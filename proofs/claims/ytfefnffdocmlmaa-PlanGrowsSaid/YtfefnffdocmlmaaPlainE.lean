/- Plain laws: the reference's Max, by shortest paths. -/
import Derived.Test.YtfefnffdocmlmaaPlainD
namespace Go.Proofs.Ytfefnffdocmlmaa.M
open Go Go.Proofs.Ytfefnffdocmlmaa.E Go.Proofs.Ytfefnffdocmlmaa.W
set_option linter.unusedVariables false
set_option linter.unusedSimpArgs false
def bc (k : Nat) : Int := if k % 2 = 0 then ((k / 2 : Nat) : Int) + 1 else -((k / 2 : Nat) : Int) - 1
theorem bc_even (i : Nat) : bc (2 * i) = (i : Int) + 1 := by unfold bc; rw [if_pos (by omega), show 2 * i / 2 = i by omega]
theorem bc_odd (i : Nat) : bc (2 * i + 1) = -(i : Int) - 1 := by unfold bc; rw [if_neg (by omega), show (2 * i + 1) / 2 = i by omega]
theorem hd_even (A : List SArc) (i : Nat) : hd A (2 * i) = aT A i := by unfold hd; rw [if_pos (by omega), show 2 * i / 2 = i by omega]
theorem tl_even (A : List SArc) (i : Nat) : tl A (2 * i) = aF A i := by unfold tl; rw [if_pos (by omega), show 2 * i / 2 = i by omega]
theorem hd_odd (A : List SArc) (i : Nat) : hd A (2 * i + 1) = aF A i := by unfold hd; rw [if_neg (by omega), show (2 * i + 1) / 2 = i by omega]
theorem tl_odd (A : List SArc) (i : Nat) : tl A (2 * i + 1) = aT A i := by unfold tl; rw [if_neg (by omega), show (2 * i + 1) / 2 = i by omega]
theorem rm_even (A : List SArc) (l : Nat → Int) (i : Nat) : rm A l (2 * i) = aC A i - l i := by unfold rm; rw [if_pos (by omega), show 2 * i / 2 = i by omega]
theorem rm_odd (A : List SArc) (l : Nat → Int) (i : Nat) : rm A l (2 * i + 1) = l i := by unfold rm; rw [if_neg (by omega), show (2 * i + 1) / 2 = i by omega]
def pos (D : List Int) : Nat := D.countP (fun x => decide (0 < x))
theorem pos_up {D : List Int} {v : Nat} {x : Int} (hv : v < D.length) (h : D.getD v 0 = 0) (hx : 0 < x) : pos (D.set v x) = pos D + 1 := by
 unfold pos
 rw [List.countP_set hv]
 have : D[v] = 0 := by rw [← getD_get (d := (0 : Int)) hv]; exact h
 rw [this, if_neg (by simp), if_pos (by simpa using hx)]; omega
structure Ds (A : List SArc) (N : Nat) (l : Nat → Int) (s : Nat) (B D : List Int) : Prop where
 blen : B.length = N
 dlen : D.length = N
 src : D.getD s 0 = 1
 lo : ∀ v, v < N → 0 ≤ D.getD v 0
 par : ∀ v, v < N → 0 < D.getD v 0 → v ≠ s → ∃ k, k < 2 * A.length ∧ hd A k = v ∧ rm A l k ≠ 0 ∧ B.getD v 0 = bc k ∧ 0 < D.getD (tl A k) 0 ∧ D.getD v 0 = D.getD (tl A k) 0 + 1
theorem Ds.step {A : List SArc} {N : Nat} {l : Nat → Int} {s : Nat} {B D : List Int} (h : Ds A N l s B D) (hA : Net A N) {k : Nat} {d : Int} (hk : k < 2 * A.length) (hr : rm A l k ≠ 0) (ht : D.getD (tl A k) 0 = d) (hd0 : 0 < d) (hh : D.getD (hd A k) 0 = 0) :
  Ds A N l s (B.set (hd A k) (bc k)) (D.set (hd A k) (d + 1)) := by
 have hv := hd_lt hA hk
 have hgD : ∀ v, (D.set (hd A k) (d + 1)).getD v 0 = if v = hd A k then d + 1 else D.getD v 0 := by
  intro v
  rw [getD_set]
  by_cases hvv : v = hd A k
  ·rw [if_pos ⟨hvv, by rw [h.dlen]; exact hv⟩, if_pos hvv]
  ·rw [if_neg (fun hx => hvv hx.1), if_neg hvv]
 have hgB : ∀ v, (B.set (hd A k) (bc k)).getD v 0 = if v = hd A k then bc k else B.getD v 0 := by
  intro v
  rw [getD_set]
  by_cases hvv : v = hd A k
  ·rw [if_pos ⟨hvv, by rw [h.blen]; exact hv⟩, if_pos hvv]
  ·rw [if_neg (fun hx => hvv hx.1), if_neg hvv]
 have hs : s ≠ hd A k := fun he => by rw [← he, h.src] at hh; omega
 have hne : tl A k ≠ hd A k := fun he => by rw [he] at ht; omega
 refine ⟨by rw [List.length_set]; exact h.blen, by rw [List.length_set]; exact h.dlen, by rw [hgD, if_neg hs]; exact h.src, fun v hvN => ?_, fun v hvN h0 hvs => ?_⟩
 ·rw [hgD]; split
  ·omega
  ·exact h.lo v hvN
 ·rw [hgD] at h0
  by_cases he : v = hd A k
  ·subst he
   exact ⟨k, hk, rfl, hr, by rw [hgB, if_pos rfl], by rw [hgD, if_neg hne, ht]; exact hd0, by rw [hgD, hgD, if_pos rfl, if_neg hne, ht]⟩
  ·rw [if_neg he] at h0
   obtain ⟨k', h1, h2, h3, h4, h5, h6⟩ := h.par v hvN h0 hvs
   have h7 : tl A k' ≠ hd A k := fun hx => by rw [hx, hh] at h5; omega
   exact ⟨k', h1, h2, h3, by rw [hgB, if_neg he]; exact h4, by rw [hgD, if_neg h7]; exact h5, by rw [hgD, hgD, if_neg he, if_neg h7]; exact h6⟩
def SB (A : List SArc) (N : Nat) (l : Nat → Int) (s : Nat) (x : Option (List Int × List Int)) : Prop :=
 ∃ B D, x = some (B, D) ∧ Ds A N l s B D ∧ (∀ v, v < N → D.getD v 0 ≤ N) ∧ ∀ k, k < 2 * A.length → rm A l k ≠ 0 → 0 < D.getD (tl A k) 0 → 0 < D.getD (hd A k) 0
theorem bsearch_in {n : SNet} {N : Nat} (hN : GoodNet n N) {s : Nat} (hs : s < N) (ll : List Int) (hll : ll.length = n.Arcs.length) (hbd : ∀ i, i < n.Arcs.length → 0 ≤ lf ll i ∧ lf ll i ≤ aC n.Arcs i) (d : Nat) (hd1 : 1 ≤ d) (hdN : d ≤ N) (K : Int → List Int → List Int → Option (List Int × List Int)) (D0 : List Int) (hlow : ∀ k, k < 2 * n.Arcs.length → rm n.Arcs (lf ll) k ≠ 0 → 0 < D0.getD (tl n.Arcs k) 0 → D0.getD (tl n.Arcs k) 0 < d → 0 < D0.getD (hd n.Arcs k) 0) (hmax : ∀ v, v < N → D0.getD v 0 ≤ d)
  (hK : ∀ B D, Ds n.Arcs N (lf ll) s B D → pos D0 < pos D → (∀ k, k < 2 * n.Arcs.length → rm n.Arcs (lf ll) k ≠ 0 → 0 < D.getD (tl n.Arcs k) 0 → D.getD (tl n.Arcs k) 0 < (d + 1 : Nat) → 0 < D.getD (hd n.Arcs k) 0) → (∀ v, v < N → D.getD v 0 ≤ (d + 1 : Nat)) → SB n.Arcs N (lf ll) s (K ((d + 1 : Nat) : Int) B D)) :
  ∀ (k i : Nat) (done : Bool) (B D : List Int), i ≤ n.Arcs.length → n.Arcs.length < k + i → Ds n.Arcs N (lf ll) s B D → (∀ v, v < N → 0 < D0.getD v 0 → D.getD v 0 = D0.getD v 0) → (∀ v, v < N → D0.getD v 0 ≤ 0 → 0 < D.getD v 0 → D.getD v 0 = d + 1) → (done = true → D = D0) → (done = false → pos D0 < pos D) →
  (∀ k, k < 2 * i → rm n.Arcs (lf ll) k ≠ 0 → D.getD (tl n.Arcs k) 0 = d → 0 < D.getD (hd n.Arcs k) 0) →
  SB n.Arcs N (lf ll) s (chargenetref09_search_l292 n ll (d : Int) K k done (i : Int) B D)
 | 0, i, done, B, D, h1, h2, _, _, _, _, _, _ => by omega
 | k + 1, i, done, B, D, h1, h2, hD, ho, hn, hdt, hdf, hcl => by
  have hmost := hN.most
  have hlen := hN.len
  have hA := hN.net
  have hBl := hD.blen
  have hDl := hD.dlen
  simp only [chargenetref09_search_l292, chargenetref09_search_b292]
  by_cases hi : i < n.Arcs.length
  ·obtain ⟨f1, f2⟩ := hA.f i hi
   obtain ⟨t1, t2⟩ := hA.t i hi
   have hne := hA.ne i hi
   have hb := hbd i hi
   have wd : IntKind.wrap .i64 ((d : Int) + 1) = ((d : Int) + 1) := Go.IntWalk.i64_in _ (by omega)
   -- one edge is looked at: a new node, or none
   have upd : ∀ (q : Nat) (B D : List Int), q < 2 * n.Arcs.length → Ds n.Arcs N (lf ll) s B D → (∀ v, v < N → 0 < D0.getD v 0 → D.getD v 0 = D0.getD v 0) → (∀ v, v < N → D0.getD v 0 ≤ 0 → 0 < D.getD v 0 → D.getD v 0 = d + 1) → rm n.Arcs (lf ll) q ≠ 0 → D.getD (tl n.Arcs q) 0 = d → D.getD (hd n.Arcs q) 0 = 0 →
     Ds n.Arcs N (lf ll) s (B.set (hd n.Arcs q) (bc q)) (D.set (hd n.Arcs q) ((d : Int) + 1)) ∧ (∀ v, v < N → 0 < D0.getD v 0 → (D.set (hd n.Arcs q) ((d : Int) + 1)).getD v 0 = D0.getD v 0) ∧ (∀ v, v < N → D0.getD v 0 ≤ 0 → 0 < (D.set (hd n.Arcs q) ((d : Int) + 1)).getD v 0 → (D.set (hd n.Arcs q) ((d : Int) + 1)).getD v 0 = d + 1) ∧ pos (D.set (hd n.Arcs q) ((d : Int) + 1)) = pos D + 1 ∧
     ∀ v, (D.set (hd n.Arcs q) ((d : Int) + 1)).getD v 0 = if v = hd n.Arcs q then (d : Int) + 1 else D.getD v 0 := by
    intro q B D hq hD ho hn hr ht hh
    have hv := hd_lt hA hq
    have hg : ∀ v, (D.set (hd n.Arcs q) ((d : Int) + 1)).getD v 0 = if v = hd n.Arcs q then (d : Int) + 1 else D.getD v 0 := by
     intro v
     rw [getD_set]
     by_cases hvv : v = hd n.Arcs q
     ·rw [if_pos ⟨hvv, by rw [hD.dlen]; exact hv⟩, if_pos hvv]
     ·rw [if_neg (fun hx => hvv hx.1), if_neg hvv]
    refine ⟨hD.step hA hq hr ht (by omega) hh, fun v hv' h0 => ?_, fun v hv' h0 h3 => ?_, pos_up (by rw [hD.dlen]; exact hv) hh (by omega), hg⟩
    ·rw [hg, if_neg (fun he => by have := ho v hv' h0; rw [he, hh] at this; rw [he] at h0; omega)]; exact ho v hv' h0
    ·rw [hg] at h3 ⊢
     split
     ·rfl
     ·rename_i he; rw [if_neg he] at h3; exact hn v hv' h0 h3
   -- the second half
   have half : ∀ (done' : Bool) (B' D' : List Int), Ds n.Arcs N (lf ll) s B' D' → (∀ v, v < N → 0 < D0.getD v 0 → D'.getD v 0 = D0.getD v 0) → (∀ v, v < N → D0.getD v 0 ≤ 0 → 0 < D'.getD v 0 → D'.getD v 0 = d + 1) → (done' = true → D' = D0) → (done' = false → pos D0 < pos D') →
     (∀ k, k < 2 * i + 1 → rm n.Arcs (lf ll) k ≠ 0 → D'.getD (tl n.Arcs k) 0 = d → 0 < D'.getD (hd n.Arcs k) 0) →
     SB n.Arcs N (lf ll) s (chargenetref09_search_p312 n ll (d : Int) (i : Int) (fun done_258 i_259 o2_260 o3_261 => chargenetref09_search_l292 n ll (d : Int) K k done_258 i_259 o2_260 o3_261) done' B' D') := by
    intro done' B' D' hD' ho' hn' hdt' hdf' hcl'
    have hBl' := hD'.blen
    have hDl' := hD'.dlen
    have no : (rm n.Arcs (lf ll) (2 * i + 1) ≠ 0 → D'.getD (aT n.Arcs i) 0 = d → 0 < D'.getD (aF n.Arcs i) 0) → SB n.Arcs N (lf ll) s (chargenetref09_search_p306 n (d : Int) (i : Int) (fun done_258 i_259 o2_260 o3_261 => chargenetref09_search_l292 n ll (d : Int) K k done_258 i_259 o2_260 o3_261) done' B' D' false) := by
     intro hno
     unfold chargenetref09_search_p306 chargenetref09_search_p297
     rw [cond_false, wsucc i (by omega)]
     refine bsearch_in hN hs ll hll hbd d hd1 hdN K D0 hlow hmax hK k (i + 1) done' B' D' (by omega) (by omega) hD' ho' hn' hdt' hdf' (fun q hq hr ht => ?_)
     by_cases hq2 : q < 2 * i + 1
     ·exact hcl' q hq2 hr ht
     ·have : q = 2 * i + 1 := by omega
      subst this
      rw [hd_odd]; rw [tl_odd] at ht
      exact hno hr ht
    unfold chargenetref09_search_p312
    simp only [f1, t1, Int.toNat_natCast]
    rw [guard_pos (by omega)]
    by_cases c1 : D'.getD (aT n.Arcs i) 0 = d
    ·rw [decide_eq_true c1, cond_true, guard_pos (by omega)]
     by_cases c2 : D'.getD (aF n.Arcs i) 0 = 0
     ·rw [decide_eq_true c2, cond_true, guard_pos (by omega)]
      by_cases c3 : 0 < ll.getD i 0
      ·rw [decide_eq_true c3]
       obtain ⟨u1, u2, u3, u4, u5⟩ := upd (2 * i + 1) B' D' (by omega) hD' ho' hn' (by rw [rm_odd]; unfold lf; omega) (by rw [tl_odd]; exact c1) (by rw [hd_odd]; exact c2)
       rw [hd_odd, bc_odd] at u1
       rw [hd_odd] at u2 u3 u4 u5
       unfold chargenetref09_search_p306 chargenetref09_search_p297
       have w1 : IntKind.wrap .i64 (IntKind.wrap .i64 (0 - (i : Int)) - 1) = -(i : Int) - 1 := by rw [Go.IntWalk.i64_in (0 - (i : Int)) (by omega), Go.IntWalk.i64_in _ (by omega)]; omega
       rw [cond_true, Int.toNat_natCast, f1, Int.toNat_natCast, guard_pos (by omega), guard_pos (by omega), w1, wd, wsucc i (by omega)]
       refine bsearch_in hN hs ll hll hbd d hd1 hdN K D0 hlow hmax hK k (i + 1) false _ _ (by omega) (by omega) u1 u2 u3 (fun h => by cases h) (fun _ => ?_) (fun q hq hr ht => ?_)
       ·rw [u4]
        cases hdn : done' with
        | true => rw [hdt' hdn]; omega
        | false => have := hdf' hdn; omega
       ·rw [u5] at ht ⊢
        by_cases e1 : hd n.Arcs q = aF n.Arcs i
        ·rw [if_pos e1]; omega
        ·rw [if_neg e1]
         by_cases e2 : tl n.Arcs q = aF n.Arcs i
         ·rw [if_pos e2] at ht; omega
         ·rw [if_neg e2] at ht
          by_cases hq2 : q < 2 * i + 1
          ·exact hcl' q hq2 hr ht
          ·have : q = 2 * i + 1 := by omega
           subst this
           rw [hd_odd] at e1; exact absurd rfl e1
      ·rw [decide_eq_false c3]
       exact no (fun hr _ => by rw [rm_odd] at hr; unfold lf at hr hb; omega)
     ·rw [decide_eq_false c2, cond_false]
      exact no (fun _ _ => by have := hD'.lo _ f2; omega)
    ·rw [decide_eq_false c1, cond_false]
     exact no (fun _ h => absurd h c1)
   have no : (rm n.Arcs (lf ll) (2 * i) ≠ 0 → D.getD (aF n.Arcs i) 0 = d → 0 < D.getD (aT n.Arcs i) 0) → SB n.Arcs N (lf ll) s (chargenetref09_search_p317 n ll (d : Int) done (i : Int) B D (fun done_258 i_259 o2_260 o3_261 => chargenetref09_search_l292 n ll (d : Int) K k done_258 i_259 o2_260 o3_261) false) := by
    intro hno
    unfold chargenetref09_search_p317
    rw [cond_false]
    refine half done B D hD ho hn hdt hdf (fun q hq hr ht => ?_)
    by_cases hq2 : q < 2 * i
    ·exact hcl q hq2 hr ht
    ·have : q = 2 * i := by omega
     subst this
     rw [hd_even]; rw [tl_even] at ht
     exact hno hr ht
   rw [decide_eq_true (by omega), cond_true, guard_pos (by omega)]
   simp only [f1, t1, Int.toNat_natCast]
   rw [guard_pos (by omega)]
   by_cases c1 : D.getD (aF n.Arcs i) 0 = d
   ·rw [decide_eq_true c1, cond_true, guard_pos (by omega)]
    by_cases c2 : D.getD (aT n.Arcs i) 0 = 0
    ·rw [decide_eq_true c2, cond_true, guard_pos (by omega)]
     by_cases c3 : ll.getD i 0 < (n.Arcs.getD i dSArc).Cap
     ·rw [decide_eq_true c3]
      obtain ⟨u1, u2, u3, u4, u5⟩ := upd (2 * i) B D (by omega) hD ho hn (by rw [rm_even]; unfold lf aC; omega) (by rw [tl_even]; exact c1) (by rw [hd_even]; exact c2)
      rw [hd_even, bc_even] at u1
      rw [hd_even] at u2 u3 u4 u5
      unfold chargenetref09_search_p317
      rw [cond_true, Int.toNat_natCast, t1, Int.toNat_natCast, guard_pos (by omega), guard_pos (by omega), wd, Go.IntWalk.i64_in ((i : Int) + 1) (by omega)]
      refine half false _ _ u1 u2 u3 (fun h => by cases h) (fun _ => ?_) (fun q hq hr ht => ?_)
      ·rw [u4]
       cases hdn : done with
       | true => rw [hdt hdn]; omega
       | false => have := hdf hdn; omega
      ·rw [u5] at ht ⊢
       by_cases e1 : hd n.Arcs q = aT n.Arcs i
       ·rw [if_pos e1]; omega
       ·rw [if_neg e1]
        by_cases e2 : tl n.Arcs q = aT n.Arcs i
        ·rw [if_pos e2] at ht; omega
        ·rw [if_neg e2] at ht
         by_cases hq2 : q < 2 * i
         ·exact hcl q hq2 hr ht
         ·have : q = 2 * i := by omega
          subst this
          rw [hd_even] at e1; exact absurd rfl e1
     ·rw [decide_eq_false c3]
      exact no (fun hr _ => by rw [rm_even] at hr; unfold lf aC at hr hb; omega)
    ·rw [decide_eq_false c2, cond_false]
     exact no (fun _ _ => by have := hD.lo _ t2; omega)
   ·rw [decide_eq_false c1, cond_false]
    exact no (fun _ h => absurd h c1)
  ·rw [decide_eq_false (by omega), cond_false]
   unfold chargenetref09_search_p227
   have hii : i = n.Arcs.length := by omega
   subst hii
   have hup : ∀ v, v < N → D.getD v 0 ≤ (d + 1 : Nat) := by
    intro v hv
    by_cases h0 : 0 < D0.getD v 0
    ·rw [ho v hv h0]; have := hmax v hv; omega
    ·by_cases h3 : 0 < D.getD v 0
     ·rw [hn v hv (by omega) h3]; omega
     ·omega
   have hclall : ∀ q, q < 2 * n.Arcs.length → rm n.Arcs (lf ll) q ≠ 0 → 0 < D.getD (tl n.Arcs q) 0 → D.getD (tl n.Arcs q) 0 < (d + 1 : Nat) → 0 < D.getD (hd n.Arcs q) 0 := by
    intro q hq hr h0 hlt
    by_cases he : D.getD (tl n.Arcs q) 0 = d
    ·exact hcl q hq hr he
    ·have htl := tl_lt hA hq
     have h00 : 0 < D0.getD (tl n.Arcs q) 0 := by
      by_cases h3 : 0 < D0.getD (tl n.Arcs q) 0
      ·exact h3
      ·have := hn _ htl (by omega) h0; omega
     have e := ho _ htl h00
     have := hlow q hq hr h00 (by omega)
     rw [ho _ (hd_lt hA hq) this]; exact this
   cases hdn : done with
   | true =>
    rw [cond_true]
    have e := hdt hdn
    refine ⟨B, D, rfl, hD, fun v hv => ?_, fun q hq hr h0 => hclall q hq hr h0 ?_⟩
    ·rw [e]; have := hmax v hv; omega
    ·rw [e]; have := hmax _ (tl_lt hA hq); omega
   | false =>
    rw [cond_false]
    unfold chargenetref09_search_p222
    rw [wsucc d (by omega)]
    exact hK B D hD (hdf hdn) hclall hup
theorem bsearch_l {n : SNet} {N : Nat} (hN : GoodNet n N) {s : Nat} (hs : s < N) (ll : List Int) (hll : ll.length = n.Arcs.length) (hbd : ∀ i, i < n.Arcs.length → 0 ≤ lf ll i ∧ lf ll i ≤ aC n.Arcs i) (F : Nat) (hF : 100000000000000000 ≤ F) : ∀ (k d : Nat) (B D : List Int), 1 ≤ d → N + 1 < k + d → Ds n.Arcs N (lf ll) s B D → d ≤ pos D → (∀ v, v < N → D.getD v 0 ≤ d) →
  (∀ k, k < 2 * n.Arcs.length → rm n.Arcs (lf ll) k ≠ 0 → 0 < D.getD (tl n.Arcs k) 0 → D.getD (tl n.Arcs k) 0 < d → 0 < D.getD (hd n.Arcs k) 0) →
  SB n.Arcs N (lf ll) s (chargenetref09_search_l218 F n ll k (d : Int) B D)
 | 0, d, B, D, h1, h2, hD, hp, _, _ => by have := hD.dlen; have : pos D ≤ D.length := List.countP_le_length; omega
 | k + 1, d, B, D, h1, h2, hD, hp, hm, hl => by
  have hDl := hD.dlen
  have hpl : pos D ≤ D.length := List.countP_le_length
  have hlen := hN.len
  simp only [chargenetref09_search_l218, chargenetref09_search_b218]
  rw [decide_eq_true (by rw [hN.nodes]; omega), cond_true]
  exact bsearch_in hN hs ll hll hbd d h1 (by omega) _ D hl hm (fun B' D' g1 g2 g3 g4 => bsearch_l hN hs ll hll hbd F hF k (d + 1) B' D' (by omega) (by omega) g1 (by omega) g4 g3) F 0 true B D (by omega) (by omega) hD (fun _ _ _ => rfl) (fun v hv h0 h3 => by omega) (fun _ => rfl) (fun h => by cases h) (fun q hq => by omega)
theorem bsearch_eq {n : SNet} {N : Nat} (hN : GoodNet n N) {s : Nat} (hs : s < N) (ll : List Int) (hll : ll.length = n.Arcs.length) (hbd : ∀ i, i < n.Arcs.length → 0 ≤ lf ll i ∧ lf ll i ≤ aC n.Arcs i) (F : Nat) (hF : 100000000000000000 ≤ F) : SB n.Arcs N (lf ll) s (chargenetref09_search F n (s : Int) ll) := by
 have hmost := hN.most
 unfold chargenetref09_search
 rw [hN.nodes, Int.toNat_natCast, Int.toNat_natCast, guard_pos (by omega), guard_pos (by omega), guard_pos (by simp; omega)]
 have hg : ∀ v, v < N → ((List.replicate N (0 : Int)).set s 1).getD v 0 = if v = s then 1 else 0 := by
  intro v hv
  rw [getD_set, getD_rep]
  by_cases h : v = s
  ·rw [if_pos ⟨h, by simpa using hs⟩, if_pos h]
  ·rw [if_neg (fun hh => h hh.1), if_neg h]
 refine bsearch_l hN hs ll hll hbd F hF F 1 _ _ (by omega) (by omega) ⟨by simp, by simp, by rw [hg s hs, if_pos rfl], fun v hv => by rw [hg v hv]; split <;> omega, fun v hv h0 hvs => by rw [hg v hv, if_neg hvs] at h0; omega⟩ ?_ (fun v hv => by rw [hg v hv]; split <;> omega) (fun q hq hr h0 h3 => by omega)
 rw [pos_up (by simpa using hs) (by rw [getD_rep]) (by decide)]; omega
inductive Pm (A : List SArc) (l : Nat → Int) (s : Nat) (B D : List Int) (δ : Int) : Nat → Prop
 | src : Pm A l s B D δ s
 | step (k : Nat) (hk : k < 2 * A.length) (hv : hd A k ≠ s) (hb : B.getD (hd A k) 0 = bc k) (hr : δ ≤ rm A l k) (hD : D.getD (hd A k) 0 = D.getD (tl A k) 0 + 1) (hp : Pm A l s B D δ (tl A k)) : Pm A l s B D δ (hd A k)
theorem spare_l {n : SNet} {N : Nat} (hN : GoodNet n N) {s : Nat} (hs : s < N) (ll : List Int) (hll : ll.length = n.Arcs.length) (hbd : ∀ i, i < n.Arcs.length → 0 ≤ lf ll i ∧ lf ll i ≤ aC n.Arcs i) {B D : List Int} (hD : Ds n.Arcs N (lf ll) s B D) : ∀ (j : Nat) (k : Nat) (δ : Int) (v : Nat), v < N → D.getD v 0 = (j : Int) + 1 → j < k → 0 < δ → δ ≤ 1099511627776 → ∃ δ', chargenetref09_spare_l27 n ll B (s : Int) k δ (v : Int) = some δ' ∧ 0 < δ' ∧ δ' ≤ δ ∧ Pm n.Arcs (lf ll) s B D δ' v
 | j, 0, δ, v, hv, hl, hk, _, _ => by omega
 | j, k + 1, δ, v, hv, hl, hk, h0, h1 => by
  have hmost := hN.most
  have hlen := hN.len
  have hA := hN.net
  have hBl := hD.blen
  simp only [chargenetref09_spare_l27, chargenetref09_spare_b27]
  by_cases hvs : v = s
  ·subst hvs
   rw [decide_eq_true rfl]
   exact ⟨δ, rfl, h0, Int.le_refl _, Pm.src⟩
  ·obtain ⟨q, hq, hqv, hqr, hqb, hq0, hqd⟩ := hD.par v hv (by omega) hvs
   have htl := tl_lt hA hq
   rw [decide_eq_false (by omega), Bool.not_false, cond_true, guard_pos (by omega), Int.toNat_natCast, hqb]
   cases j with
   | zero => omega
   | succ j =>
    have fin : ∀ δ1, 0 < δ1 → δ1 ≤ δ → δ1 ≤ rm n.Arcs (lf ll) q → ∃ δ', chargenetref09_spare_l27 n ll B (s : Int) k δ1 (tl n.Arcs q : Int) = some δ' ∧ 0 < δ' ∧ δ' ≤ δ ∧ Pm n.Arcs (lf ll) s B D δ' v := by
     intro δ1 g0 g1 g2
     obtain ⟨δ', e1, e2, e3, e4⟩ := spare_l hN hs ll hll hbd hD j k δ1 (tl n.Arcs q) htl (by omega) (by omega) g0 (by omega)
     refine ⟨δ', e1, e2, by omega, ?_⟩
     rw [← hqv]
     exact Pm.step q hq (by rw [hqv]; exact hvs) (by rw [hqv]; exact hqb) (by omega) (by rw [hqv]; exact hqd) e4
    have hi : q / 2 < n.Arcs.length := by omega
    have hb := hbd (q / 2) hi
    have hc := hA.c (q / 2) hi
    by_cases he : q % 2 = 0
    ·have hqq : q = 2 * (q / 2) := by omega
     have e1 : bc q = ((q / 2 : Nat) : Int) + 1 := by rw [hqq, bc_even]; simp
     have e2 : IntKind.wrap .i64 (bc q - 1) = ((q / 2 : Nat) : Int) := by rw [e1, Go.IntWalk.i64_in _ (by omega)]; omega
     have e3 : rm n.Arcs (lf ll) q = aC n.Arcs (q / 2) - lf ll (q / 2) := by unfold rm; rw [if_pos he]
     have e4 : tl n.Arcs q = aF n.Arcs (q / 2) := by unfold tl; rw [if_pos he]
     rw [decide_eq_true (by omega), cond_true, e2, Int.toNat_natCast, guard_pos (by omega), guard_pos (by omega), guard_pos (by omega), guard_pos (by omega), (hA.f _ hi).1, ← e4]
     have hw : IntKind.wrap .i64 ((n.Arcs.getD (q / 2) dSArc).Cap - ll.getD (q / 2) 0) = rm n.Arcs (lf ll) q := by
      rw [e3]; unfold aC lf at *; exact Go.IntWalk.i64_in _ (by omega)
     rw [hw]
     refine fin _ ?_ ?_ ?_ <;> split <;> omega
    ·have hqq : q = 2 * (q / 2) + 1 := by omega
     have e1 : bc q = -((q / 2 : Nat) : Int) - 1 := by unfold bc; rw [if_neg he]
     have e2 : IntKind.wrap .i64 (IntKind.wrap .i64 (0 - bc q) - 1) = ((q / 2 : Nat) : Int) := by rw [e1, Go.IntWalk.i64_in (0 - (-((q / 2 : Nat) : Int) - 1)) (by omega), Go.IntWalk.i64_in _ (by omega)]; omega
     have e3 : rm n.Arcs (lf ll) q = lf ll (q / 2) := by unfold rm; rw [if_neg he]
     have e4 : tl n.Arcs q = aT n.Arcs (q / 2) := by unfold tl; rw [if_neg he]
     rw [decide_eq_false (by omega), cond_false, guard_pos (by omega), e2, Int.toNat_natCast, guard_pos (by omega), guard_pos (by omega), (hA.t _ hi).1, ← e4]
     have hw : ll.getD (q / 2) 0 = rm n.Arcs (lf ll) q := e3.symm
     rw [hw]
     refine fin _ ?_ ?_ ?_ <;> split <;> omega
theorem bpush_l {n : SNet} {N : Nat} (hN : GoodNet n N) {s : Nat} (hs : s < N) (ll : List Int) (hll : ll.length = n.Arcs.length) (hbd : ∀ i, i < n.Arcs.length → 0 ≤ lf ll i ∧ lf ll i ≤ aC n.Arcs i) {B D : List Int} (hD : Ds n.Arcs N (lf ll) s B D) (δ : Int) (h0 : 0 < δ) (h1 : δ ≤ 1099511627776) : ∀ (j : Nat) (k : Nat) (v : Nat) (o : List Int), v < N → D.getD v 0 = (j : Int) + 1 → j < k → Pm n.Arcs (lf ll) s B D δ v → o.length = n.Arcs.length → (∀ i, i < n.Arcs.length → 0 ≤ lf o i ∧ lf o i ≤ aC n.Arcs i) →
  (∀ q, q < 2 * n.Arcs.length → D.getD (hd n.Arcs q) 0 ≤ D.getD v 0 → D.getD (tl n.Arcs q) 0 ≤ D.getD v 0 → rm n.Arcs (lf o) q = rm n.Arcs (lf ll) q) →
  ∃ o', chargenetref09_push_l27 n B (s : Int) δ k (v : Int) o = some o' ∧ o'.length = n.Arcs.length ∧ (∀ i, i < n.Arcs.length → 0 ≤ lf o' i ∧ lf o' i ≤ aC n.Arcs i) ∧ ∀ u, out n.Arcs (lf o') u = out n.Arcs (lf o) u + (if u = s then δ else 0) - (if u = v then δ else 0)
 | j, 0, v, o, hv, hl, hk, _, _, _, _ => by omega
 | j, k + 1, v, o, hv, hl, hk, hp, ho, hb, hr => by
  have hmost := hN.most
  have hlen := hN.len
  have hA := hN.net
  have hBl := hD.blen
  simp only [chargenetref09_push_l27, chargenetref09_push_b27]
  cases hp with
  | src =>
   rw [decide_eq_true rfl]
   exact ⟨o, rfl, ho, hb, fun u => by omega⟩
  | step q hq hvs hqb hqr hqd hp' =>
   have htl := tl_lt hA hq
   have hi : q / 2 < n.Arcs.length := by omega
   have hbi := hb (q / 2) hi
   have hc := hA.c (q / 2) hi
   rw [decide_eq_false (by omega), Bool.not_false, cond_true, guard_pos (by omega), Int.toNat_natCast, hqb]
   have hrq := hr q hq (Int.le_refl _) (by omega)
   cases j with
   | zero =>
    have h5 : 0 < D.getD (tl n.Arcs q) 0 := by
     generalize tl n.Arcs q = w at hp'
     cases hp' with
     | src => rw [hD.src]; decide
     | step q' hq' hvs' hqb' hqr' hqd' hp'' =>
      have := hD.lo _ (tl_lt hA hq')
      omega
    omega
   | succ j =>
    have fin : ∀ o1 : List Int, o1.length = n.Arcs.length → (∀ i, i < n.Arcs.length → lf o1 i = inc (lf o) q δ i) → ∃ o', chargenetref09_push_l27 n B (s : Int) δ k (tl n.Arcs q : Int) o1 = some o' ∧ o'.length = n.Arcs.length ∧ (∀ i, i < n.Arcs.length → 0 ≤ lf o' i ∧ lf o' i ≤ aC n.Arcs i) ∧ ∀ u, out n.Arcs (lf o') u = out n.Arcs (lf o) u + (if u = s then δ else 0) - (if u = hd n.Arcs q then δ else 0) := by
     intro o1 g1 g2
     have hb1 : ∀ i, i < n.Arcs.length → 0 ≤ lf o1 i ∧ lf o1 i ≤ aC n.Arcs i := fun i hi => by
      rw [g2 i hi]; exact inc_bd hb hq (by omega) (by omega) i hi
     have hrm : ∀ q', q' < 2 * n.Arcs.length → rm n.Arcs (lf o1) q' = rm n.Arcs (inc (lf o) q δ) q' := fun q' hq' => by
      unfold rm; rw [g2 (q' / 2) (by omega)]
     obtain ⟨o', e1, e2, e3, e4⟩ := bpush_l hN hs ll hll hbd hD δ h0 h1 j k (tl n.Arcs q) o1 htl (by omega) (by omega) hp' g1 hb1 (fun q' hq' h3 h4 => by
      have n1 : q' ≠ q := fun he => by subst he; omega
      have n2 : q' ≠ tw q := fun he => by subst he; rw [tl_tw] at h4; omega
      rw [hrm q' hq', rm_inc, if_neg n1, if_neg n2]
      exact hr q' hq' (by omega) (by omega))
     refine ⟨o', e1, e2, e3, fun u => ?_⟩
     rw [e4 u, out_congr g2 u, out_inc n.Arcs (lf o) q δ hq u]
     by_cases u1 : u = tl n.Arcs q <;> by_cases u2 : u = hd n.Arcs q <;> simp [u1, u2] <;> omega
    by_cases he : q % 2 = 0
    ·have e1 : bc q = ((q / 2 : Nat) : Int) + 1 := by unfold bc; rw [if_pos he]
     have e2 : IntKind.wrap .i64 (bc q - 1) = ((q / 2 : Nat) : Int) := by rw [e1, Go.IntWalk.i64_in _ (by omega)]; omega
     have e4 : tl n.Arcs q = aF n.Arcs (q / 2) := by unfold tl; rw [if_pos he]
     have hw : IntKind.wrap .i64 (o.getD (q / 2) 0 + δ) = o.getD (q / 2) 0 + δ := by unfold lf at hbi; exact Go.IntWalk.i64_in _ (by omega)
     rw [decide_eq_true (by omega), cond_true, e2, Int.toNat_natCast, guard_pos (by omega), guard_pos (by omega), guard_pos (by omega), guard_pos (by omega), (hA.f _ hi).1, ← e4, hw]
     refine fin _ (by simpa using ho) (fun i hi' => ?_)
     unfold lf inc
     rw [getD_set]
     by_cases hii : i = q / 2
     ·rw [if_pos ⟨hii, by omega⟩, if_pos hii, if_pos he, hii]
     ·rw [if_neg (fun hh => hii hh.1), if_neg hii]
    ·have e1 : bc q = -((q / 2 : Nat) : Int) - 1 := by unfold bc; rw [if_neg he]
     have e2 : IntKind.wrap .i64 (IntKind.wrap .i64 (0 - bc q) - 1) = ((q / 2 : Nat) : Int) := by rw [e1, Go.IntWalk.i64_in (0 - (-((q / 2 : Nat) : Int) - 1)) (by omega), Go.IntWalk.i64_in _ (by omega)]; omega
     have e4 : tl n.Arcs q = aT n.Arcs (q / 2) := by unfold tl; rw [if_neg he]
     have hw : IntKind.wrap .i64 (o.getD (q / 2) 0 - δ) = o.getD (q / 2) 0 - δ := by unfold lf at hbi; exact Go.IntWalk.i64_in _ (by omega)
     rw [decide_eq_false (by omega), cond_false, guard_pos (by omega), e2, Int.toNat_natCast, guard_pos (by omega), guard_pos (by omega), guard_pos (by omega), (hA.t _ hi).1, ← e4, hw]
     refine fin _ (by simpa using ho) (fun i hi' => ?_)
     unfold lf inc
     rw [getD_set]
     by_cases hii : i = q / 2
     ·rw [if_pos ⟨hii, by omega⟩, if_pos hii, if_neg he, hii]
     ·rw [if_neg (fun hh => hii hh.1), if_neg hii]
theorem rmax_l {n : SNet} {N : Nat} (hN : GoodNet n N) {s t : Nat} (hs : s < N) (ht : t < N) (hst : s ≠ t) (F : Nat) (hF : 100000000000000000 ≤ F) : ∀ (k : Nat) (value : Int) (o : List Int), o.length = n.Arcs.length → Flow n.Arcs N s t (lf o) → out n.Arcs (lf o) s = value → 0 ≤ value → 1099511627776 * (n.Arcs.length : Int) - value < k →
  ∃ (ll : List Int) (R : Nat → Bool), chargenetref09_Max_l25 F n (s : Int) (t : Int) k value o = some (out n.Arcs (lf ll) s, ll, 0) ∧ ll.length = n.Arcs.length ∧ Great n.Arcs N s t (lf ll) R
 | 0, value, o, ho, hf, hv, h0, hk => by
  have := (out_le n.Arcs (lf o) s (fun i hi => ⟨(hf.bd i hi).1, Int.le_trans (hf.bd i hi).2 (hN.net.c i hi).2⟩)).2
  omega
 | k + 1, value, o, ho, hf, hv, h0, hk => by
  have hlen := hN.len
  have hmost := hN.most
  have hA := hN.net
  have hob := (out_le n.Arcs (lf o) s (fun i hi => ⟨(hf.bd i hi).1, Int.le_trans (hf.bd i hi).2 (hA.c i hi).2⟩)).2
  simp only [chargenetref09_Max_l25, chargenetref09_Max_b25]
  obtain ⟨B, D, e1, e2, e3, e4⟩ := bsearch_eq hN hs o ho hf.bd F hF
  rw [e1, Option.bind_some, guard_pos (by simp only [e2.dlen]; omega), Int.toNat_natCast]
  by_cases hz : D.getD t 0 = 0
  ·rw [decide_eq_true hz, cond_true]
   refine ⟨o, fun v => decide (0 < D.getD v 0), by rw [hv], ho, hf, ⟨decide_eq_true (by rw [e2.src]; decide), closed_of (N := N) hf.bd (fun q hq hr h => decide_eq_true (e4 q hq hr (of_decide_eq_true h))), fun X hX hc v hv' hR => ?_⟩, decide_eq_false (by omega)⟩
   have key : ∀ (j : Nat) (v : Nat), v < N → D.getD v 0 = (j : Int) + 1 → X v = true := by
    intro j
    induction j with
    | zero =>
     intro v hv' hl
     by_cases hvs : v = s
     ·subst hvs; exact hX
     ·obtain ⟨q, _, _, _, _, h5, h6⟩ := e2.par v hv' (by omega) hvs
      omega
    | succ j ih =>
     intro v hv' hl
     by_cases hvs : v = s
     ·subst hvs; exact hX
     ·obtain ⟨q, q1, q2, q3, q4, q5, q6⟩ := e2.par v hv' (by omega) hvs
      rw [← q2]
      exact Closed.edge hf.bd hc q1 q3 (ih _ (tl_lt hA q1) (by omega))
   have := of_decide_eq_true hR
   exact key (D.getD v 0 - 1).toNat v hv' (by omega)
  ·have hlo := e2.lo t ht
   have hhi := e3 t ht
   obtain ⟨δ, s1, s2, s3, s4⟩ := spare_l hN hs o ho hf.bd e2 (D.getD t 0 - 1).toNat F 1099511627776 t ht (by omega) (by omega) (by decide) (Int.le_refl _)
   obtain ⟨o', p1, p2, p3, p4⟩ := bpush_l hN hs o ho hf.bd e2 δ s2 s3 (D.getD t 0 - 1).toNat F t o ht (by omega) (by omega) s4 ho hf.bd (fun _ _ _ _ => rfl)
   have hf' : Flow n.Arcs N s t (lf o') := ⟨p3, fun v hv' h1 h2 => by rw [p4, if_neg h1, if_neg h2, hf.cons v hv' h1 h2]; rfl⟩
   have ho' : out n.Arcs (lf o') s = value + δ := by rw [p4, if_pos rfl, if_neg hst, hv]; omega
   have hp : chargenetref09_push F n o B (s : Int) (t : Int) δ = some o' := p1
   have hsp : chargenetref09_spare F n o B (s : Int) (t : Int) = some δ := s1
   rw [decide_eq_false hz, cond_false, hsp, Option.bind_some, hp, Option.bind_some, guard_pos (by rw [p2, ho]), Go.IntWalk.i64_in _ (by omega)]
   exact rmax_l hN hs ht hst F hF k (value + δ) o' p2 hf' ho' (by omega) (by omega)
theorem rmax_eq (F : Nat) (hF : 100000000000000000 ≤ F) {n : SNet} {N : Nat} (hN : GoodNet n N) {s t : Nat} (hs : s < N) (ht : t < N) (hst : s ≠ t) (hv : chargenetref09_Ends F n (s : Int) (t : Int) = some 0) :
  ∃ (ll : List Int) (R : Nat → Bool), chargenetref09_Max F n (s : Int) (t : Int) = some (out n.Arcs (lf ll) s, ll, 0) ∧ ll.length = n.Arcs.length ∧ Great n.Arcs N s t (lf ll) R := by
 have hlen := hN.len
 unfold chargenetref09_Max
 rw [hv, Option.bind_some, decide_eq_true rfl, Bool.not_true, cond_false, guard_pos (by omega), Int.toNat_natCast]
 have hz : ∀ i, i < n.Arcs.length → (fun _ => (0 : Int)) i = lf (List.replicate n.Arcs.length 0) i := fun i _ => by unfold lf; rw [getD_rep]
 have ho : ∀ v, out n.Arcs (lf (List.replicate n.Arcs.length 0)) v = 0 := fun v => by rw [← out_congr hz]; exact out_0 _ _
 exact rmax_l hN hs ht hst F hF F 0 _ (by simp) ⟨fun i hi => by rw [← hz i hi]; exact ⟨Int.le_refl _, (hN.net.c i hi).1⟩, fun v _ _ _ => ho v⟩ (ho s) (Int.le_refl _) (by omega)
end Go.Proofs.Ytfefnffdocmlmaa.M
