/- Plain laws: paths, and the run. -/
import Derived.Test.YtfefnffdocmlmaaPlainB
namespace Go.Proofs.Ytfefnffdocmlmaa.M
open Go Go.Proofs.Ytfefnffdocmlmaa.E Go.Proofs.Ytfefnffdocmlmaa.W
set_option linter.unusedVariables false
set_option linter.unusedSimpArgs false
def tw (k : Nat) : Nat := if k % 2 = 0 then k + 1 else k - 1
theorem xor1 (k : Nat) : k ^^^ 1 = tw k := by
 have h1 : (k ^^^ 1) / 2 = k / 2 := by rw [Nat.xor_div_two]; simp
 have h2 : (k ^^^ 1) % 2 = (k + 1) % 2 := by
  have := Nat.testBit_xor k 1 0
  simp only [Nat.testBit_zero] at this
  by_cases h : k % 2 = 1
  ·have h4 : decide ((k ^^^ 1) % 2 = 1) = false := by rw [this, decide_eq_true h]; rfl
   have := of_decide_eq_false h4
   omega
  ·have h4 : decide ((k ^^^ 1) % 2 = 1) = true := by rw [this, decide_eq_false h]; rfl
   have := of_decide_eq_true h4
   omega
 unfold tw; split <;> omega
theorem ixor1 (k : Nat) (h : k < 1000000000000) : iXor .i64 (k : Int) 1 = (tw k : Int) := by
 have e1 : (BitVec.ofInt 64 (k : Int)).toNat = k := by
  rw [BitVec.toNat_ofInt]; omega
 have e2 : (BitVec.ofInt 64 (1 : Int)).toNat = 1 := by decide
 have e3 : ((BitVec.ofInt (IntKind.bits .i64) (k : Int)) ^^^ (BitVec.ofInt (IntKind.bits .i64) (1 : Int))).toNat = tw k := by
  rw [BitVec.toNat_xor]
  show (BitVec.ofInt 64 (k : Int)).toNat ^^^ (BitVec.ofInt 64 (1 : Int)).toNat = tw k
  rw [e1, e2, xor1]
 unfold iXor
 rw [e3]
 have : tw k ≤ k + 1 := by unfold tw; split <;> omega
 exact Go.IntWalk.i64_in _ (by omega)
theorem tw_lt {k m : Nat} (h : k < 2 * m) : tw k < 2 * m := by unfold tw; split <;> omega
theorem tw_ne (k : Nat) : tw k ≠ k := by unfold tw; split <;> omega
theorem hd_tw (A : List SArc) (k : Nat) : hd A (tw k) = tl A k := by
 unfold hd tl tw
 by_cases h : k % 2 = 0
 ·rw [if_pos h, if_neg (by omega), if_pos h]; congr 1; omega
 ·rw [if_neg h, if_pos (by omega), if_neg h]; congr 1; omega
theorem tl_tw (A : List SArc) (k : Nat) : tl A (tw k) = hd A k := by
 unfold hd tl tw
 by_cases h : k % 2 = 0
 ·rw [if_pos h, if_neg (by omega), if_pos h]; congr 1; omega
 ·rw [if_neg h, if_pos (by omega), if_neg h]; congr 1; omega
def inc (l : Nat → Int) (k : Nat) (n : Int) (i : Nat) : Int := if i = k / 2 then (if k % 2 = 0 then l i + n else l i - n) else l i
theorem rm_inc (A : List SArc) (l : Nat → Int) (k : Nat) (n : Int) (k' : Nat) : rm A (inc l k n) k' = if k' = k then rm A l k - n else if k' = tw k then rm A l (tw k) + n else rm A l k' := by
 unfold rm inc
 by_cases h : k % 2 = 0
 ·have et : tw k = k + 1 := by unfold tw; rw [if_pos h]
  rw [et]
  by_cases h1 : k' = k
  ·subst h1; simp [h]; omega
  ·by_cases h2 : k' = k + 1
   ·subst h2
    have e1 : (k + 1) / 2 = k / 2 := by omega
    have e2 : ¬ (k + 1) % 2 = 0 := by omega
    simp [h, e1, e2]
   ·rw [if_neg h1, if_neg h2]
    by_cases h3 : k' / 2 = k / 2
    ·omega
    ·rw [if_neg h3]
 ·have et : tw k = k - 1 := by unfold tw; rw [if_neg h]
  rw [et]
  by_cases h1 : k' = k
  ·subst h1; simp [h]
  ·by_cases h2 : k' = k - 1
   ·subst h2
    have e1 : (k - 1) / 2 = k / 2 := by omega
    have e2 : (k - 1) % 2 = 0 := by omega
    simp [h, e1, e2, h1]; omega
   ·rw [if_neg h1, if_neg h2]
    by_cases h3 : k' / 2 = k / 2
    ·omega
    ·rw [if_neg h3]
theorem out_inc (A : List SArc) (l : Nat → Int) (k : Nat) (n : Int) (hk : k < 2 * A.length) (v : Nat) : out A (inc l k n) v = out A l v + (if v = tl A k then n else 0) - (if v = hd A k then n else 0) := by
 have h1 := S_upd (fun i => (if aF A i = v then l i else 0) - (if aT A i = v then l i else 0)) (fun i => (if aF A i = v then inc l k n i else 0) - (if aT A i = v then inc l k n i else 0)) (k / 2) A.length (fun i _ hi => by unfold inc; rw [if_neg hi])
 unfold out
 rw [h1, if_pos (by omega)]
 unfold inc tl hd
 simp only [if_true]
 by_cases h : k % 2 = 0
 ·simp only [h, if_true]
  by_cases h2 : aF A (k / 2) = v <;> by_cases h3 : aT A (k / 2) = v
  ·simp [h2, h3]
  ·rw [if_pos h2, if_neg h3, if_pos h2, if_neg h3, if_pos h2.symm, if_neg (fun h => h3 h.symm)]; omega
  ·rw [if_neg h2, if_pos h3, if_neg h2, if_pos h3, if_neg (fun h => h2 h.symm), if_pos h3.symm]; omega
  ·rw [if_neg h2, if_neg h3, if_neg h2, if_neg h3, if_neg (fun h => h2 h.symm), if_neg (fun h => h3 h.symm)]; omega
 ·simp only [h, if_false]
  by_cases h2 : aF A (k / 2) = v <;> by_cases h3 : aT A (k / 2) = v
  ·simp [h2, h3]
  ·rw [if_pos h2, if_neg h3, if_pos h2, if_neg h3, if_neg (fun h => h3 h.symm), if_pos h2.symm]; omega
  ·rw [if_neg h2, if_pos h3, if_neg h2, if_pos h3, if_pos h3.symm, if_neg (fun h => h2 h.symm)]; omega
  ·rw [if_neg h2, if_neg h3, if_neg h2, if_neg h3, if_neg (fun h => h3 h.symm), if_neg (fun h => h2 h.symm)]; omega
theorem inc_bd {A : List SArc} {l : Nat → Int} (hb : ∀ i, i < A.length → 0 ≤ l i ∧ l i ≤ aC A i) {k : Nat} {n : Int} (hk : k < 2 * A.length) (h0 : 0 ≤ n) (hn : n ≤ rm A l k) : ∀ i, i < A.length → 0 ≤ inc l k n i ∧ inc l k n i ≤ aC A i := by
 intro i hi
 have := hb i hi
 unfold inc
 unfold rm at hn
 by_cases h : i = k / 2
 ·subst h
  rw [if_pos rfl]
  by_cases h2 : k % 2 = 0
  ·rw [if_pos h2] at hn ⊢; omega
  ·rw [if_neg h2] at hn ⊢; omega
 ·rw [if_neg h]; exact this
theorem Ed.inc {A : List SArc} {E : List SEdge} {l : Nat → Int} (h : Ed A E l) {N : Nat} (hA : Net A N) {k : Nat} {n : Int} (hk : k < 2 * A.length) (h0 : 0 ≤ n) (hn : n ≤ rm A l k) :
  Ed A ((E.set k (SEdge.mk (hd A k) (rm A l k - n))).set (tw k) (SEdge.mk (tl A k) (rm A l (tw k) + n))) (inc l k n) := by
 refine ⟨by simp [h.len], fun k' hk' => ?_, inc_bd h.bd hk h0 hn⟩
 rw [getD_set, getD_set, rm_inc, List.length_set, h.len]
 by_cases h1 : k' = tw k
 ·subst h1
  rw [if_pos ⟨rfl, hk'⟩, if_neg (tw_ne k), if_pos rfl, hd_tw]
 ·rw [if_neg (fun hh => h1 hh.1)]
  by_cases h2 : k' = k
  ·subst h2
   rw [if_pos ⟨rfl, hk'⟩, if_pos rfl]
  ·rw [if_neg (fun hh => h2 hh.1), if_neg h2, if_neg h1]
   exact h.get k' hk'
def Dead (A : List SArc) (N : Nat) (O : List (List Int)) (L : List Int) (t : Nat) (l : Nat → Int) (T : List Int) : Prop :=
 ∀ v, v < N → ∀ j : Nat, (j : Int) < T.getD v 0 → ∀ k : Nat, k < 2 * A.length → (O.getD v []).getD j 0 = (k : Int) → rm A l k = 0 ∨ L.getD (hd A k) 0 ≠ L.getD v 0 + 1 ∨ (hd A k ≠ t ∧ T.getD (hd A k) 0 = (O.getD (hd A k) []).length)
structure Tok (N : Nat) (O : List (List Int)) (T : List Int) : Prop where
 len : T.length = N
 bd : ∀ v, v < N → 0 ≤ T.getD v 0 ∧ T.getD v 0 ≤ (O.getD v []).length
def PS (A : List SArc) (N : Nat) (O : List (List Int)) (L : List Int) (t u : Nat) (most : Int) (E : List SEdge) (T : List Int) (l : Nat → Int) (x : Option (Int × List SEdge × List Int)) : Prop :=
 ∃ r E' T' l', x = some (r, E', T') ∧ 0 ≤ r ∧ r ≤ most ∧ Ed A E' l' ∧ (r = 0 → E' = E ∧ l' = l) ∧
  (∀ v, out A l' v = out A l v + (if v = u then r else 0) - (if v = t then r else 0)) ∧
  (∀ k, k < 2 * A.length → L.getD (tl A k) 0 < L.getD u 0 ∨ L.getD (hd A k) 0 < L.getD u 0 → rm A l' k = rm A l k) ∧
  Tok N O T' ∧ (∀ v, v < N → T.getD v 0 ≤ T'.getD v 0) ∧ (∀ v, v < N → L.getD v 0 < L.getD u 0 → T'.getD v 0 = T.getD v 0) ∧
  (Dead A N O L t l T → r = 0 → Dead A N O L t l T' ∧ T'.getD u 0 = (O.getD u []).length ∧ u ≠ t)
theorem PS.from {A : List SArc} {N : Nat} {O : List (List Int)} {L : List Int} {t u : Nat} {most : Int} {E : List SEdge} {T T1 : List Int} {l : Nat → Int} {x : Option (Int × List SEdge × List Int)} (h : PS A N O L t u most E T1 l x)
  (h1 : ∀ v, v < N → T.getD v 0 ≤ T1.getD v 0) (h2 : ∀ v, v < N → L.getD v 0 < L.getD u 0 → T1.getD v 0 = T.getD v 0) (h3 : Dead A N O L t l T → Dead A N O L t l T1) : PS A N O L t u most E T l x := by
 obtain ⟨r, E', T', l', g1, g2, g3, g4, g5, g6, g7, g8, g9, g10, g11⟩ := h
 exact ⟨r, E', T', l', g1, g2, g3, g4, g5, g6, g7, g8, fun v hv => Int.le_trans (h1 v hv) (g9 v hv), fun v hv hl => (g10 v hv hl).trans (h2 v hv hl), fun hd => g11 (h3 hd)⟩
theorem turn_up {A : List SArc} {N : Nat} (hA : Net A N) {O : List (List Int)} {L : List Int} {t : Nat} {u : Nat} (hu : u < N) {T : List Int} (hT : Tok N O T) (l : Nat → Int) (h : T.getD u 0 < (O.getD u []).length) {k : Nat} (hk : k < 2 * A.length) (hke : (O.getD u []).getD (T.getD u 0).toNat 0 = (k : Int))
  (hdead : rm A l k = 0 ∨ L.getD (hd A k) 0 ≠ L.getD u 0 + 1 ∨ (hd A k ≠ t ∧ T.getD (hd A k) 0 = (O.getD (hd A k) []).length)) :
  Tok N O (T.set u (T.getD u 0 + 1)) ∧ (∀ v, v < N → T.getD v 0 ≤ (T.set u (T.getD u 0 + 1)).getD v 0) ∧ (∀ v, v < N → L.getD v 0 < L.getD u 0 → (T.set u (T.getD u 0 + 1)).getD v 0 = T.getD v 0) ∧ (Dead A N O L t l T → Dead A N O L t l (T.set u (T.getD u 0 + 1))) := by
 have hg : ∀ v, (T.set u (T.getD u 0 + 1)).getD v 0 = if v = u then T.getD u 0 + 1 else T.getD v 0 := by
  intro v
  rw [getD_set]
  by_cases hvv : v = u
  ·rw [if_pos ⟨hvv, by rw [hT.len]; exact hu⟩, if_pos hvv]
  ·rw [if_neg (fun hx => hvv hx.1), if_neg hvv]
 have hb := hT.bd u hu
 refine ⟨⟨by rw [List.length_set]; exact hT.len, fun v hv => ?_⟩, fun v hv => ?_, fun v hv hl => ?_, fun hd0 v hv j hj k' hk' hke' => ?_⟩
 ·rw [hg]
  have := hT.bd v hv
  split
  ·rename_i he; subst he; omega
  ·exact this
 ·rw [hg]; split
  ·rename_i he; subst he; omega
  ·omega
 ·rw [hg, if_neg (fun he => by subst he; omega)]
 ·-- what is exhausted stays so
  have keep : ∀ w, w < N → T.getD w 0 = (O.getD w []).length → (T.set u (T.getD u 0 + 1)).getD w 0 = (O.getD w []).length := by
   intro w hw he
   rw [hg, if_neg (fun h2 => by subst h2; omega)]; exact he
  have fin : rm A l k' = 0 ∨ L.getD (hd A k') 0 ≠ L.getD v 0 + 1 ∨ (hd A k' ≠ t ∧ T.getD (hd A k') 0 = (O.getD (hd A k') []).length) → rm A l k' = 0 ∨ L.getD (hd A k') 0 ≠ L.getD v 0 + 1 ∨ (hd A k' ≠ t ∧ (T.set u (T.getD u 0 + 1)).getD (hd A k') 0 = (O.getD (hd A k') []).length) := by
   rintro (h1 | h1 | ⟨h1, h2⟩)
   ·exact .inl h1
   ·exact .inr (.inl h1)
   ·exact .inr (.inr ⟨h1, keep _ (hd_lt hA hk') h2⟩)
  rw [hg] at hj
  by_cases hvu : v = u
  ·subst hvu
   rw [if_pos rfl] at hj
   by_cases hjj : (j : Int) < T.getD v 0
   ·exact fin (hd0 v hv j hjj k' hk' hke')
   ·have hje : j = (T.getD v 0).toNat := by omega
    rw [hje, hke] at hke'
    have : k = k' := by omega
    subst this
    exact fin hdead
  ·rw [if_neg hvu] at hj
   exact fin (hd0 v hv j hj k' hk' hke')
theorem push_l {A : List SArc} {N : Nat} (hA : Net A N) {O : List (List Int)} (hO : Ou A N (2 * A.length) O) {L : List Int} (hL : L.length = N) (hlo : ∀ v, v < N → -1 ≤ L.getD v 0) (hhi : ∀ v, v < N → L.getD v 0 ≤ N) {t : Nat} (ht : t < N) {u : Nat} (hu : u < N) (hut : u ≠ t) (most : Int) (hm : 0 < most) (hm2 : most ≤ 4611686018427387904) (rec_ : List SEdge → List (List Int) → List Int → List Int → Int → Int → Int → Option (Int × List SEdge × List Int)) (E : List SEdge) (l : Nat → Int) (hE : Ed A E l)
  (hrec : ∀ (w : Nat) (most' : Int) (T : List Int), w < N → L.getD w 0 = L.getD u 0 + 1 → 0 < most' → most' ≤ 4611686018427387904 → Tok N O T → PS A N O L t w most' E T l (rec_ E O L T (w : Int) (t : Int) most')) :
  ∀ (n : Nat) (T : List Int), Tok N O T → (O.getD u []).length - T.getD u 0 < n → PS A N O L t u most E T l (flow_graph_push_l57 O L (u : Int) (t : Int) most rec_ n E T)
 | 0, T, hT, h => by have := (hT.bd u hu).2; omega
 | n + 1, T, hT, h => by
  have hlen := hA.len
  have hNn := hA.nodes
  have hsm := hO.small u hu
  obtain ⟨hb0, hb1⟩ := hT.bd u hu
  have hwl : IntKind.wrap .i64 (L.getD u 0 + 1) = L.getD u 0 + 1 := by
   have := hlo u hu; have := hhi u hu
   exact Go.IntWalk.i64_in _ (by omega)
  have p65 : ∀ (T1 : List Int), Tok N O T1 → T1.getD u 0 < (O.getD u []).length → T.getD u 0 ≤ T1.getD u 0 → ∀ {k : Nat}, k < 2 * A.length → (O.getD u []).getD (T1.getD u 0).toNat 0 = (k : Int) →
    (rm A l k = 0 ∨ L.getD (hd A k) 0 ≠ L.getD u 0 + 1 ∨ (hd A k ≠ t ∧ T1.getD (hd A k) 0 = (O.getD (hd A k) []).length)) →
    PS A N O L t u most E T1 l (flow_graph_push_p65 (u : Int) (fun o1_30 o3_31 => flow_graph_push_l57 O L (u : Int) (t : Int) most rec_ n o1_30 o3_31) E T1) := by
   intro T1 hT1 h1 h2 k hk hke hdead
   obtain ⟨g1, g2, g3, g4⟩ := turn_up hA hu hT1 l h1 hk hke hdead
   have hb := hT1.bd u hu
   unfold flow_graph_push_p65
   rw [guard_pos (by rw [hT1.len]; omega), guard_pos (by rw [hT1.len]; omega), Int.toNat_natCast, Go.IntWalk.i64_in _ (by omega)]
   refine PS.from (push_l hA hO hL hlo hhi ht hu hut most hm hm2 rec_ E l hE hrec n _ g1 ?_) g2 g3 g4
   rw [getD_set, if_pos ⟨rfl, by rw [hT1.len]; exact hu⟩]; omega
  simp only [flow_graph_push_l57, flow_graph_push_b57]
  rw [guard_pos (by rw [hT.len]; omega), guard_pos (by rw [hO.len]; omega), Int.toNat_natCast]
  by_cases hlt : T.getD u 0 < (O.getD u []).length
  ·obtain ⟨k, hk, hke, hkt⟩ := hO.mem u hu ((O.getD u []).getD (T.getD u 0).toNat 0) (mem_getD (by omega))
   have hv := hd_lt hA hk
   have hEl := hE.len
   rw [decide_eq_true hlt, cond_true, guard_pos (by rw [hO.len]; omega), guard_pos (by rw [hT.len]; omega), guard_pos (by omega), hke, guard_pos (by omega), guard_pos (by omega), Int.toNat_natCast, hE.get k hk]
   by_cases hrm : rm A l k = 0
   ·rw [decide_eq_true hrm, cond_true]
    exact p65 T hT hlt (Int.le_refl _) hk hke (.inl hrm)
   ·rw [decide_eq_false hrm, cond_false, guard_pos (by rw [hL]; simp only; omega), guard_pos (by rw [hL]; omega), hwl]
    simp only [Int.toNat_natCast]
    by_cases hlv : L.getD (hd A k) 0 = L.getD u 0 + 1
    ·have hr0 := hE.rm0 hk
     rw [decide_eq_true hlv, Bool.not_true, cond_false, guard_pos (by omega)]
     have hmin : (0 : Int) < (if rm A l k < most then rm A l k else most) ∧ (if rm A l k < most then rm A l k else most) ≤ 4611686018427387904 ∧ (if rm A l k < most then rm A l k else most) ≤ rm A l k ∧ (if rm A l k < most then rm A l k else most) ≤ most := by
      split <;> omega
     obtain ⟨m1, m2, m3, m4⟩ := hmin
     obtain ⟨r, E1, T1, l1, e1, e2, e3, e4, e5, e6, e7, e8, e9, e10, e11⟩ := hrec (hd A k) _ T hv hlv m1 m2 hT
     rw [e1, Option.bind_some]
     by_cases hr : 0 < r
     ·have hu' : L.getD u 0 < L.getD (hd A k) 0 := by omega
      have hrk : rm A l1 k = rm A l k := e7 k hk (.inl (by rw [hkt]; exact hu'))
      have hE1l := e4.len
      have htk := tw_lt hk
      have hC : rm A l k ≤ 1099511627776 ∧ rm A l1 (tw k) ≤ 1099511627776 := by
       have := hE.bd (k / 2) (by omega)
       have := (hA.c (k / 2) (by omega))
       have := e4.bd (tw k / 2) (by omega)
       have := (hA.c (tw k / 2) (by omega))
       constructor
       ·unfold rm; split <;> omega
       ·unfold rm; split <;> omega
      have hr1 := e4.rm0 hk
      have hr2 := e4.rm0 htk
      have hset : ∀ x : SEdge, (E1.set k x).getD (tw k) dSEdge = E1.getD (tw k) dSEdge := by
       intro x; rw [getD_set, if_neg (fun hh => tw_ne k hh.1)]
      have hw1 : IntKind.wrap .i64 (rm A l1 k - r) = rm A l1 k - r := Go.IntWalk.i64_in _ (by omega)
      have hw2 : IntKind.wrap .i64 (rm A l1 (tw k) + r) = rm A l1 (tw k) + r := Go.IntWalk.i64_in _ (by omega)
      have hinc := e4.inc hA hk (by omega) (show r ≤ rm A l1 k by omega)
      rw [decide_eq_true hr, cond_true, ixor1 k (by omega)]
      simp only [Int.toNat_natCast, hset]
      rw [e4.get k hk, e4.get (tw k) htk, hd_tw]
      simp only [hw1, hw2]
      rw [guard_pos (by omega), guard_pos (by omega), guard_pos (by rw [List.length_set]; omega), guard_pos (by rw [List.length_set]; omega)]
      refine ⟨r, _, T1, inc l1 k r, rfl, by omega, by omega, hinc, fun h => by omega, fun v => ?_, fun k' hk' hlow => ?_, e8, e9, fun v hv' hl' => e10 v hv' (by omega), fun _ h => by omega⟩
      ·rw [out_inc A l1 k r hk v, e6 v, hkt]
       have hne : u ≠ hd A k := fun he => by rw [← he] at hlv; omega
       by_cases c1 : v = u <;> by_cases c2 : v = hd A k <;> simp [c1, c2] <;> omega
      ·have n1 : k' ≠ k := fun he => by subst he; rw [hkt] at hlow; omega
       have n2 : k' ≠ tw k := fun he => by subst he; rw [tl_tw, hd_tw, hkt] at hlow; omega
       rw [rm_inc, if_neg n1, if_neg n2]
       exact e7 k' hk' (by omega)
     ·have hr0 : r = 0 := by omega
      obtain ⟨he, hl1⟩ := e5 hr0
      have hTu : T1.getD u 0 = T.getD u 0 := e10 u hu (by omega)
      rw [decide_eq_false hr, cond_false, he]
      simp only
      by_cases hdd : Dead A N O L t l T
      ·obtain ⟨d1, d2, d3⟩ := e11 hdd hr0
       have := p65 T1 e8 (by omega) (by omega) hk (by rw [hTu]; exact hke) (.inr (.inr ⟨d3, d2⟩))
       exact PS.from this e9 (fun v hv' hl' => e10 v hv' (by omega)) (fun _ => d1)
      ·-- without the property nothing is claimed of it
       have hT2 : Tok N O (T1.set u (T1.getD u 0 + 1)) := by
        refine ⟨by rw [List.length_set]; exact e8.len, fun v hv' => ?_⟩
        rw [getD_set]
        have := e8.bd v hv'
        split
        ·rename_i hh; obtain ⟨rfl, _⟩ := hh; omega
        ·exact this
       have hb := e8.bd u hu
       unfold flow_graph_push_p65
       rw [guard_pos (by rw [e8.len]; omega), guard_pos (by rw [e8.len]; omega), Int.toNat_natCast, Go.IntWalk.i64_in _ (by omega)]
       refine PS.from (push_l hA hO hL hlo hhi ht hu hut most hm hm2 rec_ E l hE hrec n _ hT2 ?_) (fun v hv' => ?_) (fun v hv' hl' => ?_) (fun h => absurd h hdd)
       ·rw [getD_set, if_pos ⟨rfl, by rw [e8.len]; exact hu⟩]; omega
       ·rw [getD_set]
        have := e9 v hv'
        split
        ·rename_i hh; obtain ⟨rfl, _⟩ := hh; omega
        ·exact this
       ·rw [getD_set, if_neg (fun hh => by rw [hh.1] at hl'; omega)]
        exact e10 v hv' (by omega)
    ·rw [decide_eq_false hlv, Bool.not_false, cond_true]
     exact p65 T hT hlt (Int.le_refl _) hk hke (.inr (.inl hlv))
  ·rw [decide_eq_false hlt, cond_false]
   unfold flow_graph_push_p4
   exact ⟨0, E, T, l, rfl, Int.le_refl _, by omega, hE, fun _ => ⟨rfl, rfl⟩, fun v => by simp, fun _ _ _ => rfl, hT, fun _ _ => Int.le_refl _, fun _ _ _ => rfl, fun h _ => ⟨h, by omega, hut⟩⟩
theorem push_ok {A : List SArc} {N : Nat} (hA : Net A N) {O : List (List Int)} (hO : Ou A N (2 * A.length) O) {L : List Int} (hL : L.length = N) (hlo : ∀ v, v < N → -1 ≤ L.getD v 0) (hhi : ∀ v, v < N → L.getD v 0 ≤ N) {t : Nat} (ht : t < N) : ∀ (F : Nat) (u : Nat) (most : Int) (E : List SEdge) (T : List Int) (l : Nat → Int), u < N → 0 < most → most ≤ 4611686018427387904 → Ed A E l → Tok N O T → (N : Int) - L.getD u 0 + 2 * A.length + 5 ≤ F →
  PS A N O L t u most E T l (flow_graph_push F E O L T (u : Int) (t : Int) most)
 | 0, u, most, E, T, l, hu, _, _, _, _, hF => by have := hhi u hu; omega
 | F + 1, u, most, E, T, l, hu, hm, hm2, hE, hT, hF => by
  simp only [flow_graph_push, flow_graph_push_r]
  by_cases hut : u = t
  ·rw [decide_eq_true (by rw [hut]), cond_true]
   exact ⟨most, E, T, l, rfl, by omega, Int.le_refl _, hE, fun _ => ⟨rfl, rfl⟩, fun v => by rw [hut]; split <;> omega, fun _ _ _ => rfl, hT, fun _ _ => Int.le_refl _, fun _ _ _ => rfl, fun _ h => by omega⟩
  ·rw [decide_eq_false (by omega), cond_false]
   have hsm := hO.small u hu
   have hb := hT.bd u hu
   have h1 := hhi u hu
   exact push_l hA hO hL hlo hhi ht hu hut most hm hm2 _ E l hE (fun w most' T' hw hlw hm' hm2' hT' => push_ok hA hO hL hlo hhi ht F w most' E T' l hw hm' hm2' hE hT' (by omega)) F T hT (by omega)
theorem exhausted {A : List SArc} {N : Nat} (hA : Net A N) {O : List (List Int)} (hO : Ou A N (2 * A.length) O) {L : List Int} {l : Nat → Int} {s t : Nat} (hs : s < N) (hst : s ≠ t) (hsp : SP A N l s t L) {T : List Int} (hT : Tok N O T) (hd0 : Dead A N O L t l T) (hx : T.getD s 0 = (O.getD s []).length) :
  ∀ (j : Nat) (v : Nat), v < N → L.getD v 0 = (j : Int) → v ≠ t ∧ T.getD v 0 = (O.getD v []).length
 | 0, v, hv, hl => by
  by_cases hvs : v = s
  ·subst hvs; exact ⟨hst, hx⟩
  ·obtain ⟨k, _, _, _, h4, h5⟩ := hsp.par v hv (by omega) hvs
   omega
 | j + 1, v, hv, hl => by
  have hvs : v ≠ s := fun h => by rw [h, hsp.src] at hl; omega
  obtain ⟨k, h1, h2, h3, h4, h5⟩ := hsp.par v hv (by omega) hvs
  have hu := tl_lt hA h1
  obtain ⟨e1, e2⟩ := exhausted hA hO hs hst hsp hT hd0 hx j (tl A k) hu (by omega)
  obtain ⟨p, hp, he⟩ := List.getElem_of_mem (hO.all k h1)
  rcases hd0 (tl A k) hu p (by omega) k h1 (by rw [getD_get hp]; exact he) with h | h | ⟨h, h'⟩
  ·exact absurd h h3
  ·rw [h2] at h; omega
  ·rw [h2] at h h'; exact ⟨h, h'⟩
theorem dead_0 {A : List SArc} {N : Nat} {O : List (List Int)} {L : List Int} {t : Nat} {l : Nat → Int} : Dead A N O L t l (List.replicate N 0) := by
 intro v hv j hj
 rw [getD_rep] at hj; omega
theorem tok_0 {N : Nat} {O : List (List Int)} : Tok N O (List.replicate N 0) := ⟨by simp, fun v hv => by rw [getD_rep]; omega⟩
def RR (A : List SArc) (N s t : Nat) (x : Option (Int × List SEdge × List Int × List Int)) : Prop :=
 ∃ E L T l, x = some (out A l s, E, L, T) ∧ Ed A E l ∧ (∀ v, v < N → v ≠ s → v ≠ t → out A l v = 0) ∧ SP A N l s t L ∧ L.getD t 0 < 0
theorem runInner {A : List SArc} {N : Nat} (hA : Net A N) {O : List (List Int)} (hO : Ou A N (2 * A.length) O) {s t : Nat} (hs : s < N) (ht : t < N) (hst : s ≠ t) (F : Nat) (hF : 100000000000000000 ≤ F) (c : Bool × List Int × List Int) (l0 : Nat → Int) (hsp : SP A N l0 s t c.2.1) (K : Int → List SEdge → List Int → List Int → Option (Int × List SEdge × List Int × List Int)) (v0 : Int)
  (hK : ∀ (v : Int) (E : List SEdge) (T : List Int) (l : Nat → Int), v0 ≤ v → Ed A E l → out A l s = v → (∀ v, v < N → v ≠ s → v ≠ t → out A l v = 0) → T.length = N → RR A N s t (K v E c.2.1 T)) :
  ∀ (n : Nat) (value r : Int) (E : List SEdge) (T : List Int) (l : Nat → Int), Ed A E l → out A l s = value + r → (∀ v, v < N → v ≠ s → v ≠ t → out A l v = 0) → 0 ≤ r → 0 ≤ value → v0 ≤ value + r → Tok N O T → 1099511627776 * (A.length : Int) - value < n →
  RR A N s t (flow_graph_run_l82 F O (s : Int) (t : Int) K c n value r E T)
 | 0, value, r, E, T, l, hE, ho, hc, hr, hv, hv0, hT, hn => by
  have := (out_le A l s (fun i hi => ⟨(hE.bd i hi).1, Int.le_trans (hE.bd i hi).2 (hA.c i hi).2⟩)).2
  omega
 | n + 1, value, r, E, T, l, hE, ho, hc, hr, hv, hv0, hT, hn => by
  have hlen := hA.len
  have hNn := hA.nodes
  have hob := (out_le A l s (fun i hi => ⟨(hE.bd i hi).1, Int.le_trans (hE.bd i hi).2 (hA.c i hi).2⟩)).2
  simp only [flow_graph_run_l82, flow_graph_run_b82]
  by_cases h : 0 < r
  ·have hls := hsp.src
   obtain ⟨r1, E1, T1, l1, e1, e2, e3, e4, e5, e6, e7, e8, e9, e10, e11⟩ := push_ok hA hO hsp.llen hsp.lo hsp.hi ht F s 4611686018427387904 E T l hs (by decide) (by decide) hE hT (by omega)
   rw [decide_eq_true h, cond_true, e1, Option.bind_some, Go.IntWalk.i64_in _ (by omega)]
   refine runInner hA hO hs ht hst F hF c l0 hsp K v0 hK n (value + r) r1 E1 T1 l1 e4 ?_ (fun v hv' h1 h2 => ?_) e2 (by omega) (by omega) e8 (by omega)
   ·rw [e6, if_pos rfl, if_neg hst]; omega
   ·rw [e6, if_neg h1, if_neg h2, hc v hv' h1 h2]; rfl
  ·rw [decide_eq_false h, cond_false]
   exact hK value E T l (by omega) hE (by omega) hc hT.len
theorem run_out {A : List SArc} {N : Nat} (hA : Net A N) {O : List (List Int)} (hO : Ou A N (2 * A.length) O) {s t : Nat} (hs : s < N) (ht : t < N) (hst : s ≠ t) (F : Nat) (hF : 100000000000000000 ≤ F) : ∀ (n : Nat) (value : Int) (E : List SEdge) (L T : List Int) (l : Nat → Int), Ed A E l → out A l s = value → (∀ v, v < N → v ≠ s → v ≠ t → out A l v = 0) → 0 ≤ value → L.length = N → T.length = N → 1099511627776 * (A.length : Int) - value < n →
  RR A N s t (flow_graph_run_l66 F O (s : Int) (t : Int) n value E L T)
 | 0, value, E, L, T, l, hE, ho, hc, hv, hL, hT, hn => by
  have := (out_le A l s (fun i hi => ⟨(hE.bd i hi).1, Int.le_trans (hE.bd i hi).2 (hA.c i hi).2⟩)).2
  omega
 | n + 1, value, E, L, T, l, hE, ho, hc, hv, hL, hT, hn => by
  have hlen := hA.len
  have hNn := hA.nodes
  simp only [flow_graph_run_l66, flow_graph_run_b66]
  obtain ⟨L', hs1, hsp⟩ := search_eq hA hE hO hs ht hst F hF L T hL hT
  rw [hs1, Option.bind_some]
  by_cases h : 0 ≤ L'.getD t 0
  ·have hls := hsp.src
   obtain ⟨r1, E1, T1, l1, e1, e2, e3, e4, e5, e6, e7, e8, e9, e10, e11⟩ := push_ok hA hO hsp.llen hsp.lo hsp.hi ht F s 4611686018427387904 E (List.replicate N 0) l hs (by decide) (by decide) hE tok_0 (by omega)
   have hr1 : 0 < r1 := by
    by_cases hr : r1 = 0
    ·obtain ⟨d1, d2, d3⟩ := e11 dead_0 hr
     exact absurd rfl (exhausted hA hO hs hst hsp e8 d1 d2 (L'.getD t 0).toNat t ht (by omega)).1
    ·omega
   rw [decide_eq_true h, cond_true, e1, Option.bind_some]
   refine runInner hA hO hs ht hst F hF (true, L', List.replicate N 0) l hsp _ (value + r1) (fun v E2 T2 l2 h1 h2 h3 h4 h5 => ?_) F value r1 E1 T1 l1 e4 ?_ (fun v hv' h1 h2 => ?_) e2 hv (Int.le_refl _) e8 (by omega)
   ·exact run_out hA hO hs ht hst F hF n v E2 L' T2 l2 h2 h3 h4 (by omega) hsp.llen h5 (by omega)
   ·rw [e6, if_pos rfl, if_neg hst]; omega
   ·rw [e6, if_neg h1, if_neg h2, hc v hv' h1 h2]; rfl
  ·rw [decide_eq_false h, cond_false]
   unfold flow_graph_run_p5
   exact ⟨E, L', List.replicate N 0, l, by rw [ho], hE, hc, hsp, by omega⟩
theorem out_0 (A : List SArc) (v : Nat) : out A (fun _ => 0) v = 0 := by
 unfold out
 exact (S_congr fun i _ => by simp).trans (S_zero _)
def lset (L : List Int) (v : Nat) : Bool := decide (0 ≤ L.getD v 0)
theorem closed_of {A : List SArc} {N : Nat} {l : Nat → Int} {X : Nat → Bool} (hb : ∀ i, i < A.length → 0 ≤ l i ∧ l i ≤ aC A i) (h : ∀ k, k < 2 * A.length → rm A l k ≠ 0 → X (tl A k) = true → X (hd A k) = true) : Closed A l X := by
 intro i hi
 have h0 := h (2 * i) (by omega)
 have h1 := h (2 * i + 1) (by omega)
 have a1 : rm A l (2 * i) = aC A i - l i := by unfold rm; rw [if_pos (by omega), show 2 * i / 2 = i by omega]
 have a2 : rm A l (2 * i + 1) = l i := by unfold rm; rw [if_neg (by omega), show (2 * i + 1) / 2 = i by omega]
 have a3 : tl A (2 * i) = aF A i := by unfold tl; rw [if_pos (by omega), show 2 * i / 2 = i by omega]
 have a4 : hd A (2 * i) = aT A i := by unfold hd; rw [if_pos (by omega), show 2 * i / 2 = i by omega]
 have a5 : tl A (2 * i + 1) = aT A i := by unfold tl; rw [if_neg (by omega), show (2 * i + 1) / 2 = i by omega]
 have a6 : hd A (2 * i + 1) = aF A i := by unfold hd; rw [if_neg (by omega), show (2 * i + 1) / 2 = i by omega]
 rw [a1, a3, a4] at h0
 rw [a2, a5, a6] at h1
 exact ⟨fun hlt => h0 (by omega), fun hlt => h1 (by omega)⟩
theorem Closed.edge {A : List SArc} {l : Nat → Int} {X : Nat → Bool} (hb : ∀ i, i < A.length → 0 ≤ l i ∧ l i ≤ aC A i) (h : Closed A l X) {k : Nat} (hk : k < 2 * A.length) (hr : rm A l k ≠ 0) (ht : X (tl A k) = true) : X (hd A k) = true := by
 have hi : k / 2 < A.length := by omega
 obtain ⟨h1, h2⟩ := h (k / 2) hi
 have hb' := hb (k / 2) hi
 unfold rm at hr
 unfold tl at ht
 unfold hd
 by_cases he : k % 2 = 0
 ·rw [if_pos he] at hr ht ⊢; exact h1 (by omega) ht
 ·rw [if_neg he] at hr ht ⊢; exact h2 (by omega) ht
theorem SP.least {A : List SArc} {N : Nat} {l : Nat → Int} {s t : Nat} {L : List Int} (hA : Net A N) (hb : ∀ i, i < A.length → 0 ≤ l i ∧ l i ≤ aC A i) (h : SP A N l s t L) (ht : L.getD t 0 < 0) : Least A N l s (lset L) := by
 refine ⟨by unfold lset; rw [h.src]; rfl, closed_of (N := N) hb (fun k hk hr h0 => ?_), fun X hXs hX v hv hR => ?_⟩
 ·have := h.cl ht k hk hr (of_decide_eq_true h0)
  exact decide_eq_true this
 ·have key : ∀ (j : Nat) (v : Nat), v < N → L.getD v 0 = (j : Int) → X v = true := by
   intro j
   induction j with
   | zero =>
    intro v hv hl
    by_cases hvs : v = s
    ·subst hvs; exact hXs
    ·obtain ⟨k, _, _, _, h4, h5⟩ := h.par v hv (by omega) hvs
     omega
   | succ j ih =>
    intro v hv hl
    by_cases hvs : v = s
    ·subst hvs; exact hXs
    ·obtain ⟨k, h1, h2, h3, h4, h5⟩ := h.par v hv (by omega) hvs
     rw [← h2]
     exact Closed.edge hb hX h1 h3 (ih _ (tl_lt hA h1) (by omega))
  have h0 := of_decide_eq_true hR
  exact key (L.getD v 0).toNat v hv (by omega)
theorem run_eq (n : SNet) (N : Nat) (hA : Net n.Arcs N) (hN : n.Nodes = (N : Int)) {s t : Nat} (hs : s < N) (ht : t < N) (hst : s ≠ t) (F : Nat) (hF : 100000000000000000 ≤ F) :
  ∃ B E L T l, flow_build_own F n = some B ∧ flow_graph_run F B.1 B.2.1 B.2.2.1 B.2.2.2 (s : Int) (t : Int) = some (out n.Arcs l s, E, L, T) ∧ Ed n.Arcs E l ∧ L.length = N ∧ Great n.Arcs N s t l (lset L) := by
 obtain ⟨E0, O, h1, h2, h3⟩ := build_eq n N hA hN F hF
 have hlen := hA.len
 obtain ⟨E, L, T, l, e1, e2, e3, e4, e5⟩ := run_out hA h3 hs ht hst F hF F 0 E0 (List.replicate N 0) (List.replicate N 0) (fun _ => 0) h2 (out_0 _ _) (fun v _ _ _ => out_0 _ _) (Int.le_refl _) (by simp) (by simp) (by omega)
 refine ⟨_, E, L, T, l, h1, ?_, e2, e4.llen, ⟨⟨e2.bd, e3⟩, e4.least hA e2.bd e5, ?_⟩⟩
 ·unfold flow_graph_run
  exact e1
 ·exact decide_eq_false (by omega)
end Go.Proofs.Ytfefnffdocmlmaa.M
