/- Plain laws: the residual graph, and the search in it. -/
import Derived.Test.YtfefnffdocmlmaaPlainA
namespace Go.Proofs.Ytfefnffdocmlmaa.M
open Go Go.Proofs.Ytfefnffdocmlmaa.E Go.Proofs.Ytfefnffdocmlmaa.W
set_option linter.unusedVariables false
set_option linter.unusedSimpArgs false
def hd (A : List SArc) (k : Nat) : Nat := if k % 2 = 0 then aT A (k / 2) else aF A (k / 2)
def tl (A : List SArc) (k : Nat) : Nat := if k % 2 = 0 then aF A (k / 2) else aT A (k / 2)
def rm (A : List SArc) (l : Nat → Int) (k : Nat) : Int := if k % 2 = 0 then aC A (k / 2) - l (k / 2) else l (k / 2)
theorem hd_lt {A : List SArc} {N : Nat} (hA : Net A N) {k : Nat} (hk : k < 2 * A.length) : hd A k < N := by
 unfold hd; split
 ·exact (hA.t _ (by omega)).2
 ·exact (hA.f _ (by omega)).2
theorem tl_lt {A : List SArc} {N : Nat} (hA : Net A N) {k : Nat} (hk : k < 2 * A.length) : tl A k < N := by
 unfold tl; split
 ·exact (hA.f _ (by omega)).2
 ·exact (hA.t _ (by omega)).2
structure Ed (A : List SArc) (E : List SEdge) (l : Nat → Int) : Prop where
 len : E.length = 2 * A.length
 get : ∀ k, k < 2 * A.length → E.getD k dSEdge = SEdge.mk (hd A k : Int) (rm A l k)
 bd : ∀ i, i < A.length → 0 ≤ l i ∧ l i ≤ aC A i
theorem Ed.rm0 {A : List SArc} {E : List SEdge} {l : Nat → Int} (h : Ed A E l) {k : Nat} (hk : k < 2 * A.length) : 0 ≤ rm A l k := by
 have := h.bd (k / 2) (by omega)
 unfold rm; split <;> omega
structure Ou (A : List SArc) (N K : Nat) (O : List (List Int)) : Prop where
 len : O.length = N
 mem : ∀ u, u < N → ∀ x, x ∈ O.getD u [] → ∃ k : Nat, k < K ∧ x = (k : Int) ∧ tl A k = u
 all : ∀ k : Nat, k < K → (k : Int) ∈ O.getD (tl A k) []
 small : ∀ u, u < N → (O.getD u []).length ≤ K
theorem Ou.step {A : List SArc} {N K : Nat} {O : List (List Int)} (h : Ou A N K O) (hk : tl A K < N) : Ou A N (K + 1) (O.set (tl A K) (O.getD (tl A K) [] ++ [(K : Int)])) := by
 have hg : ∀ u, (O.set (tl A K) (O.getD (tl A K) [] ++ [(K : Int)])).getD u [] = if u = tl A K then O.getD (tl A K) [] ++ [(K : Int)] else O.getD u [] := by
  intro u
  rw [getD_set]
  by_cases hu : u = tl A K
  ·rw [if_pos ⟨hu, by rw [h.len]; exact hk⟩, if_pos hu]
  ·rw [if_neg (fun hh => hu hh.1), if_neg hu]
 refine ⟨by rw [List.length_set]; exact h.len, fun u hu x hx => ?_, fun k hk2 => ?_, fun u hu => ?_⟩
 ·rw [hg] at hx
  split at hx
  ·rename_i hh
   rcases List.mem_append.1 hx with hx | hx
   ·obtain ⟨k, h1, h2, h3⟩ := h.mem _ hk x hx
    exact ⟨k, by omega, h2, by rw [h3, hh]⟩
   ·simp at hx
    exact ⟨K, by omega, hx, hh.symm⟩
  ·obtain ⟨k, h1, h2, h3⟩ := h.mem u hu x hx
   exact ⟨k, by omega, h2, h3⟩
 ·rw [hg]
  by_cases hkK : k = K
  ·subst hkK; rw [if_pos rfl]; simp
  ·have := h.all k (by omega)
   split
   ·rename_i hh; rw [hh] at this; exact List.mem_append.2 (.inl this)
   ·exact this
 ·rw [hg]
  split
  ·have := h.small _ hk; simp only [List.length_append, List.length_cons, List.length_nil]; omega
  ·have := h.small u hu; omega
theorem build_l (n : SNet) (N : Nat) (hA : Net n.Arcs N) (hN : n.Nodes = (N : Int)) : ∀ (F i : Nat) (E : List SEdge) (O : List (List Int)), i ≤ n.Arcs.length → n.Arcs.length < F + i → E.length = 2 * i →
  (∀ k, k < 2 * i → E.getD k dSEdge = SEdge.mk (hd n.Arcs k : Int) (rm n.Arcs (fun _ => 0) k)) → Ou n.Arcs N (2 * i) O →
  ∃ E' O', flow_build_own_l36 n F (i : Int) E O = some (E', O', List.replicate N 0, List.replicate N 0) ∧ Ed n.Arcs E' (fun _ => 0) ∧ Ou n.Arcs N (2 * n.Arcs.length) O'
 | 0, i, E, O, h1, h2, _, _, _ => by omega
 | F + 1, i, E, O, h1, h2, hE, hg, hO => by
  have hlen := hA.len
  simp only [flow_build_own_l36, flow_build_own_b36]
  by_cases hi : i < n.Arcs.length
  ·obtain ⟨f1, f2⟩ := hA.f i hi
   obtain ⟨t1, t2⟩ := hA.t i hi
   have hne := hA.ne i hi
   have e0 : tl n.Arcs (2 * i) = aF n.Arcs i := by unfold tl; rw [if_pos (by omega), show 2 * i / 2 = i by omega]
   have e1 : tl n.Arcs (2 * i + 1) = aT n.Arcs i := by unfold tl; rw [if_neg (by omega), show (2 * i + 1) / 2 = i by omega]
   have hO1 := hO.step (by rw [e0]; exact f2)
   have hO2 := hO1.step (by rw [e1]; exact t2)
   rw [e0] at hO1 hO2
   rw [e1] at hO2
   have s1 := hO.small _ f2
   have s2 := hO1.small _ t2
   have w1 : IntKind.wrap .i64 (2 * (i : Int)) = ((2 * i : Nat) : Int) := by rw [Go.IntWalk.i64_in _ (by omega)]; omega
   have w2 : IntKind.wrap .i64 (((2 * i : Nat) : Int) + 1) = ((2 * i + 1 : Nat) : Int) := by rw [Go.IntWalk.i64_in _ (by omega)]; omega
   rw [decide_eq_true (show (i : Int) < (n.Arcs.length : Int) by omega), cond_true, guard_pos (by omega), Int.toNat_natCast, w1, w2, f1, t1, Int.toNat_natCast, Int.toNat_natCast]
   rw [guard_pos (by simp; omega), guard_pos (by rw [hO.len]; omega), guard_pos (by rw [hO.len]; omega), guard_pos (by simp only [List.length_cons, List.length_nil]; omega), guard_pos (by rw [hO.len]; omega), guard_pos (by rw [List.length_set, hO.len]; omega), guard_pos (by rw [List.length_set, hO.len]; omega), guard_pos (by simp only [List.length_cons, List.length_nil]; omega), guard_pos (by rw [List.length_set, hO.len]; omega), wsucc i (by omega)]
   refine build_l n N hA hN F (i + 1) _ _ (by omega) (by omega) (by simp; omega) (fun k hk => ?_) (by rw [show 2 * (i + 1) = 2 * i + 1 + 1 by omega]; exact hO2)
   rw [getD_append, hE]
   by_cases hk2 : k < 2 * i
   ·rw [if_pos hk2]; exact hg k hk2
   ·rw [if_neg hk2]
    by_cases hk3 : k = 2 * i
    ·subst hk3
     have : hd n.Arcs (2 * i) = aT n.Arcs i := by unfold hd; rw [if_pos (by omega), show 2 * i / 2 = i by omega]
     rw [this, show 2 * i - 2 * i = 0 by omega]
     unfold rm
     rw [if_pos (by omega), show 2 * i / 2 = i by omega]
     simp [aC]
    ·have hk4 : k = 2 * i + 1 := by omega
     subst hk4
     have : hd n.Arcs (2 * i + 1) = aF n.Arcs i := by unfold hd; rw [if_neg (by omega), show (2 * i + 1) / 2 = i by omega]
     rw [this, show 2 * i + 1 - 2 * i = 1 by omega]
     unfold rm
     rw [if_neg (by omega)]
     rfl
  ·have hii : i = n.Arcs.length := by omega
   subst hii
   rw [decide_eq_false (by omega), cond_false]
   unfold flow_build_own_p6
   rw [hN, Int.toNat_natCast]
   exact ⟨E, O, rfl, ⟨hE, hg, fun i hi => ⟨Int.le_refl _, (hA.c i hi).1⟩⟩, hO⟩
theorem build_eq (n : SNet) (N : Nat) (hA : Net n.Arcs N) (hN : n.Nodes = (N : Int)) (F : Nat) (hF : 100000000000000000 ≤ F) :
  ∃ E' O', flow_build_own F n = some (E', O', List.replicate N 0, List.replicate N 0) ∧ Ed n.Arcs E' (fun _ => 0) ∧ Ou n.Arcs N (2 * n.Arcs.length) O' := by
 have h1 := hA.nodes
 have h2 := hA.len
 have := build_l n N hA hN F 0 [] (List.replicate N []) (by omega) (by omega) rfl (fun k hk => by omega)
  ⟨by simp, fun u _ x hx => by rw [getD_rep] at hx; simp at hx, fun k hk => by omega, fun u _ => by rw [getD_rep]; simp⟩
 unfold flow_build_own
 rw [hN, Int.toNat_natCast, guard_pos (by omega), guard_pos (by omega), guard_pos (by omega)]
 exact this
theorem eq_rep {l : List Int} {x : Int} {N : Nat} (hl : l.length = N) (h : ∀ v, v < N → l.getD v 0 = x) : l = List.replicate N x := by
 rw [List.eq_replicate_iff]
 refine ⟨hl, fun b hb => ?_⟩
 obtain ⟨i, hi, rfl⟩ := List.getElem_of_mem hb
 have := h i (by omega)
 rw [← this, List.getD_eq_getElem?_getD, List.getElem?_eq_getElem hi]; rfl
theorem countP_up {L : List Int} {v : Nat} {x : Int} (hv : v < L.length) (h0 : L.getD v 0 < 0) (hx : 0 ≤ x) : (L.set v x).countP (fun x => decide (0 ≤ x)) = L.countP (fun x => decide (0 ≤ x)) + 1 := by
 rw [List.countP_set hv]
 have : L[v] < 0 := by rw [List.getD_eq_getElem?_getD, List.getElem?_eq_getElem hv] at h0; exact h0
 rw [if_neg (by simp; omega), if_pos (by simpa using hx)]; omega
structure Bfs (A : List SArc) (N : Nat) (l : Nat → Int) (s : Nat) (q L : List Int) : Prop where
 llen : L.length = N
 qlen : q.length = L.countP (fun x => decide (0 ≤ x))
 qin : ∀ x, x ∈ q → ∃ v : Nat, x = (v : Int) ∧ v < N ∧ 0 ≤ L.getD v 0
 qall : ∀ v, v < N → 0 ≤ L.getD v 0 → (v : Int) ∈ q
 src : L.getD s 0 = 0
 lo : ∀ v, v < N → -1 ≤ L.getD v 0
 hi : ∀ v, v < N → L.getD v 0 < q.length
 par : ∀ v, v < N → 0 ≤ L.getD v 0 → v ≠ s → ∃ k, k < 2 * A.length ∧ hd A k = v ∧ rm A l k ≠ 0 ∧ 0 ≤ L.getD (tl A k) 0 ∧ L.getD v 0 = L.getD (tl A k) 0 + 1
structure SP (A : List SArc) (N : Nat) (l : Nat → Int) (s t : Nat) (L : List Int) : Prop where
 llen : L.length = N
 src : L.getD s 0 = 0
 lo : ∀ v, v < N → -1 ≤ L.getD v 0
 hi : ∀ v, v < N → L.getD v 0 ≤ N
 par : ∀ v, v < N → 0 ≤ L.getD v 0 → v ≠ s → ∃ k, k < 2 * A.length ∧ hd A k = v ∧ rm A l k ≠ 0 ∧ 0 ≤ L.getD (tl A k) 0 ∧ L.getD v 0 = L.getD (tl A k) 0 + 1
 cl : L.getD t 0 < 0 → ∀ k, k < 2 * A.length → rm A l k ≠ 0 → 0 ≤ L.getD (tl A k) 0 → 0 ≤ L.getD (hd A k) 0
theorem Bfs.qN {A : List SArc} {N : Nat} {l : Nat → Int} {s : Nat} {q L : List Int} (h : Bfs A N l s q L) : q.length ≤ N := by
 rw [h.qlen, ← h.llen]; exact List.countP_le_length
theorem Bfs.step {A : List SArc} {N : Nat} {l : Nat → Int} {s : Nat} {q L : List Int} (h : Bfs A N l s q L) {k : Nat} (hA : Net A N) (hk : k < 2 * A.length) (hr : rm A l k ≠ 0) (ht : 0 ≤ L.getD (tl A k) 0) (hh : L.getD (hd A k) 0 < 0) :
  Bfs A N l s (q ++ [(hd A k : Int)]) (L.set (hd A k) (L.getD (tl A k) 0 + 1)) := by
 have hv := hd_lt hA hk
 have hu := tl_lt hA hk
 have hg : ∀ v, (L.set (hd A k) (L.getD (tl A k) 0 + 1)).getD v 0 = if v = hd A k then L.getD (tl A k) 0 + 1 else L.getD v 0 := by
  intro v
  rw [getD_set]
  by_cases hvv : v = hd A k
  ·rw [if_pos ⟨hvv, by rw [h.llen]; exact hv⟩, if_pos hvv]
  ·rw [if_neg (fun hx => hvv hx.1), if_neg hvv]
 have hne : tl A k ≠ hd A k := fun he => by rw [he] at ht; omega
 have hs : s ≠ hd A k := fun he => by rw [← he, h.src] at hh; omega
 refine ⟨by rw [List.length_set]; exact h.llen, ?_, fun x hx => ?_, fun v hvN h0 => ?_, ?_, fun v hvN => ?_, fun v hvN => ?_, fun v hvN h0 hvs => ?_⟩
 ·rw [countP_up (by rw [h.llen]; exact hv) hh (by omega), ← h.qlen]; simp
 ·rcases List.mem_append.1 hx with hx | hx
  ·obtain ⟨v, h1, h2, h3⟩ := h.qin x hx
   refine ⟨v, h1, h2, ?_⟩
   rw [hg]; split <;> omega
  ·simp at hx
   exact ⟨hd A k, hx, hv, by rw [hg, if_pos rfl]; omega⟩
 ·rw [hg] at h0
  split at h0
  ·rename_i he; rw [he]; simp
  ·exact List.mem_append.2 (.inl (h.qall v hvN h0))
 ·rw [hg, if_neg hs]; exact h.src
 ·rw [hg]; split
  ·omega
  ·exact h.lo v hvN
 ·rw [hg]; simp only [List.length_append, List.length_cons, List.length_nil]
  have := h.hi v hvN
  have := h.hi _ hu
  split <;> omega
 ·rw [hg] at h0
  by_cases he : v = hd A k
  ·subst he
   exact ⟨k, hk, rfl, hr, by rw [hg, if_neg hne]; exact ht, by rw [hg, hg, if_pos rfl, if_neg hne]⟩
  ·rw [if_neg he] at h0
   obtain ⟨k', h1, h2, h3, h4, h5⟩ := h.par v hvN h0 hvs
   have h6 : tl A k' ≠ hd A k := fun hx => by rw [hx] at h4; omega
   exact ⟨k', h1, h2, h3, by rw [hg, if_neg h6]; exact h4, by rw [hg, hg, if_neg he, if_neg h6]; exact h5⟩
theorem Bfs.sp {A : List SArc} {N : Nat} {l : Nat → Int} {s t : Nat} {q L : List Int} (h : Bfs A N l s q L) (hc : L.getD t 0 < 0 → ∀ k, k < 2 * A.length → rm A l k ≠ 0 → 0 ≤ L.getD (tl A k) 0 → 0 ≤ L.getD (hd A k) 0) : SP A N l s t L :=
 ⟨h.llen, h.src, h.lo, fun v hv => by have := h.hi v hv; have := h.qN; omega, h.par, hc⟩
def SR (A : List SArc) (N : Nat) (l : Nat → Int) (s t : Nat) (T : List Int) (x : Option (Bool × List Int × List Int)) : Prop :=
 ∃ L, x = some (decide (0 ≤ L.getD t 0), L, T) ∧ SP A N l s t L
theorem p6_sr {A : List SArc} {N : Nat} {l : Nat → Int} {s t : Nat} (ht : t < N) (T : List Int) {L : List Int} (hb : SP A N l s t L) : SR A N l s t T (flow_graph_search_p6 (t : Int) T L) := by
 unfold flow_graph_search_p6
 rw [guard_pos (by rw [hb.llen]; omega), Int.toNat_natCast]
 exact ⟨L, rfl, hb⟩
theorem search_in {A : List SArc} {N : Nat} (hA : Net A N) {l : Nat → Int} {E : List SEdge} (hE : Ed A E l) {O : List (List Int)} (hO : Ou A N (2 * A.length) O) {s t : Nat} (hs : s < N) (ht : t < N) (T : List Int) (K : Int → List Int → List Int → Option (Bool × List Int × List Int)) (i : Nat) (u : Nat) (hu : u < N) (q0 : List Int) (hq0 : q0.getD i 0 = (u : Int)) (hi0 : i < q0.length)
  (hK : ∀ q L, Bfs A N l s q L → (∃ r, q = q0 ++ r) → L.getD t 0 < 0 → (∀ k, k < 2 * A.length → tl A k = u → rm A l k ≠ 0 → 0 ≤ L.getD (hd A k) 0) → (∀ j, j < i → ∀ k, k < 2 * A.length → (tl A k : Int) = q.getD j 0 → rm A l k ≠ 0 → 0 ≤ L.getD (hd A k) 0) → SR A N l s t T (K ((i + 1 : Nat) : Int) L q)) :
  ∀ (n j : Nat) (L q : List Int), j ≤ (O.getD u []).length → (O.getD u []).length < n + j → Bfs A N l s q L → (∃ r, q = q0 ++ r) → L.getD t 0 < 0 → 0 ≤ L.getD u 0 →
  (∀ j', j' < j → ∀ k : Nat, (O.getD u []).getD j' 0 = (k : Int) → rm A l k ≠ 0 → 0 ≤ L.getD (hd A k) 0) → (∀ j, j < i → ∀ k, k < 2 * A.length → (tl A k : Int) = q.getD j 0 → rm A l k ≠ 0 → 0 ≤ L.getD (hd A k) 0) →
  SR A N l s t T (flow_graph_search_l152 E O (t : Int) T (i : Int) q0 K n (j : Int) L q)
 | 0, j, L, q, h1, h2, _, _, _, _, _, _ => by omega
 | n + 1, j, L, q, h1, h2, hb, hr, hlt, hlu, hd1, hd2 => by
  have hlen := hA.len
  have hNn := hA.nodes
  have hqN := hb.qN
  have hq0N : q0.length ≤ N := by obtain ⟨r, rfl⟩ := hr; simp at hqN; omega
  simp only [flow_graph_search_l152, flow_graph_search_b152]
  rw [Int.toNat_natCast, hq0, Int.toNat_natCast, Int.toNat_natCast]
  have hsm := hO.small u hu
  by_cases hj : j < (O.getD u []).length
  ·obtain ⟨k, hk, hke, hkt⟩ := hO.mem u hu ((O.getD u []).getD j 0) (mem_getD hj)
   have hv := hd_lt hA hk
   have hEl := hE.len
   have hcont : ∀ L' q', Bfs A N l s q' L' → (∃ r, q' = q0 ++ r) → L'.getD t 0 < 0 → 0 ≤ L'.getD u 0 → (∀ v, 0 ≤ L.getD v 0 → 0 ≤ L'.getD v 0) → (rm A l k ≠ 0 → 0 ≤ L'.getD (hd A k) 0) → (∀ j, j < q.length → q'.getD j 0 = q.getD j 0) → i < q.length →
     SR A N l s t T (flow_graph_search_p156 (j : Int) (fun t61_135 o2_136 o4_137 => flow_graph_search_l152 E O (t : Int) T (i : Int) q0 K n t61_135 o2_136 o4_137) L' q') := by
    intro L' q' g1 g2 g3 g4 g5 g6 g7 g8
    unfold flow_graph_search_p156
    rw [wsucc j (by omega)]
    refine search_in hA hE hO hs ht T K i u hu q0 hq0 hi0 hK n (j + 1) L' q' (by omega) (by omega) g1 g2 g3 g4 (fun j' hj' k' hk' hr' => ?_) (fun j' hj' k' hk' hkt' hr' => ?_)
    ·by_cases hjj : j' = j
     ·subst hjj
      rw [hke] at hk'
      have : k = k' := by omega
      subst this
      exact g6 hr'
     ·exact g5 _ (hd1 j' (by omega) k' hk' hr')
    ·rw [g7 j' (by omega)] at hkt'
     exact g5 _ (hd2 j' hj' k' hk' hkt' hr')
   have hiq : i < q.length := by obtain ⟨r, rfl⟩ := hr; simp; omega
   rw [decide_eq_true (by omega), cond_true, guard_pos (by omega), hke, Int.toNat_natCast, guard_pos (by omega), guard_pos (by omega), hE.get k hk]
   by_cases hrm : rm A l k = 0
   ·rw [decide_eq_true hrm, cond_true]
    exact hcont L q hb hr hlt hlu (fun _ h => h) (fun h => absurd hrm h) (fun _ _ => rfl) hiq
   ·rw [decide_eq_false hrm, cond_false, guard_pos (by rw [hb.llen]; simp only; omega)]
    simp only [Int.toNat_natCast]
    by_cases hl0 : 0 ≤ L.getD (hd A k) 0
    ·rw [decide_eq_true hl0, cond_true]
     exact hcont L q hb hr hlt hlu (fun _ h => h) (fun _ => hl0) (fun _ _ => rfl) hiq
    ·have hhi := hb.hi u hu
     have hw : IntKind.wrap .i64 (L.getD u 0 + 1) = L.getD u 0 + 1 := Go.IntWalk.i64_in _ (by omega)
     have hst := hb.step hA hk hrm (by rw [hkt]; exact hlu) (by omega)
     rw [hkt] at hst
     rw [decide_eq_false hl0, cond_false, guard_pos (by rw [hb.llen]; omega), guard_pos (by rw [hb.llen]; omega), hw]
     have hg : ∀ v, (L.set (hd A k) (L.getD u 0 + 1)).getD v 0 = if v = hd A k then L.getD u 0 + 1 else L.getD v 0 := by
      intro v
      rw [getD_set]
      by_cases hvv : v = hd A k
      ·rw [if_pos ⟨hvv, by rw [hb.llen]; exact hv⟩, if_pos hvv]
      ·rw [if_neg (fun hx => hvv hx.1), if_neg hvv]
     by_cases hvt : hd A k = t
     ·rw [decide_eq_true (by rw [hvt]), cond_true]
      refine p6_sr ht T (hst.sp (fun hc => ?_))
      rw [hg, if_pos hvt.symm] at hc
      omega
     ·rw [decide_eq_false (by omega), cond_false, guard_pos (by simp; omega)]
      refine hcont _ _ hst ?_ ?_ ?_ (fun v hv0 => ?_) (fun _ => ?_) (fun j' hj' => ?_) hiq
      ·obtain ⟨r, rfl⟩ := hr; exact ⟨r ++ [(hd A k : Int)], by simp⟩
      ·rw [hg, if_neg (fun h => hvt h.symm)]; exact hlt
      ·rw [hg]; split <;> omega
      ·rw [hg]; split <;> omega
      ·rw [hg, if_pos rfl]; omega
      ·rw [getD_append, if_pos hj']
  ·rw [decide_eq_false (by omega), cond_false]
   unfold flow_graph_search_p118
   rw [wsucc i (by omega)]
   refine hK q L hb hr hlt (fun k hk hkt hrm => ?_) hd2
   have := hO.all k hk
   rw [hkt] at this
   obtain ⟨j', hj', he⟩ := List.getElem_of_mem this
   exact hd1 j' (by omega) k (by rw [getD_get hj']; exact he) hrm
theorem search_q {A : List SArc} {N : Nat} (hA : Net A N) {l : Nat → Int} {E : List SEdge} (hE : Ed A E l) {O : List (List Int)} (hO : Ou A N (2 * A.length) O) {s t : Nat} (hs : s < N) (ht : t < N) (T : List Int) (F : Nat) (hF : 100000000000000000 ≤ F) : ∀ (n i : Nat) (L q : List Int), i ≤ q.length → N < n + i → Bfs A N l s q L → L.getD t 0 < 0 →
  (∀ j, j < i → ∀ k, k < 2 * A.length → (tl A k : Int) = q.getD j 0 → rm A l k ≠ 0 → 0 ≤ L.getD (hd A k) 0) → SR A N l s t T (flow_graph_search_l114 F E O (t : Int) T n (i : Int) L q)
 | 0, i, L, q, h1, h2, hb, _, _ => by have := hb.qN; omega
 | n + 1, i, L, q, h1, h2, hb, hlt, hd2 => by
  have hlen := hA.len
  have hNn := hA.nodes
  have hqN := hb.qN
  simp only [flow_graph_search_l114, flow_graph_search_b114]
  by_cases hi : i < q.length
  ·obtain ⟨u, hu1, hu2, hu3⟩ := hb.qin (q.getD i 0) (mem_getD hi)
   have hsm := hO.small u hu2
   rw [decide_eq_true (by omega), cond_true, guard_pos (by omega), Int.toNat_natCast, hu1, guard_pos (by rw [hO.len]; omega)]
   refine search_in hA hE hO hs ht T _ i u hu2 q hu1 hi (fun q' L' g1 g2 g3 g4 g5 => ?_) F 0 L q (by omega) (by omega) hb ⟨[], by simp⟩ hlt hu3 (fun j' hj' => by omega) hd2
   refine search_q hA hE hO hs ht T F hF n (i + 1) L' q' (by obtain ⟨r, rfl⟩ := g2; simp; omega) (by omega) g1 g3 (fun j hj k hk hkt hr => ?_)
   by_cases hji : j = i
   ·subst hji
    have : q'.getD j 0 = (u : Int) := by obtain ⟨r, rfl⟩ := g2; rw [getD_append, if_pos hi, hu1]
    exact g4 k hk (by omega) hr
   ·exact g5 j (by omega) k hk hkt hr
  ·rw [decide_eq_false (by omega), cond_false]
   refine p6_sr ht T (hb.sp (fun _ k hk hr h0 => ?_))
   have := hb.qall _ (tl_lt hA hk) h0
   obtain ⟨j, hj, he⟩ := List.getElem_of_mem this
   exact hd2 j (by omega) k hk (by rw [getD_get hj]; exact he.symm) hr
theorem search_0 {A : List SArc} {N : Nat} (hA : Net A N) {l : Nat → Int} {E : List SEdge} (hE : Ed A E l) {O : List (List Int)} (hO : Ou A N (2 * A.length) O) {s t : Nat} (hs : s < N) (ht : t < N) (hst : s ≠ t) (F : Nat) (hF : 100000000000000000 ≤ F) (L0 : List Int) (hL0 : L0.length = N) :
  ∀ (n i : Nat) (L T : List Int), i ≤ N → N < n + i → L.length = N → T.length = N → (∀ v, v < i → L.getD v 0 = -1) → (∀ v, v < i → T.getD v 0 = 0) →
  SR A N l s t (List.replicate N 0) (flow_graph_search_l177 F E O L0 (s : Int) (t : Int) n (i : Int) L T)
 | 0, i, L, T, h1, h2, _, _, _, _ => by omega
 | n + 1, i, L, T, h1, h2, hL, hT, gL, gT => by
  have hNn := hA.nodes
  simp only [flow_graph_search_l177, flow_graph_search_b177]
  by_cases hi : i < N
  ·rw [decide_eq_true (by omega), cond_true, guard_pos (by omega), guard_pos (by omega), Int.toNat_natCast, wsucc i (by omega)]
   refine search_0 hA hE hO hs ht hst F hF L0 hL0 n (i + 1) _ _ (by omega) (by omega) (by simpa using hL) (by simpa using hT) (fun v hv => ?_) (fun v hv => ?_)
   ·rw [getD_set]; split
    ·rfl
    ·rename_i hh; exact gL v (by omega)
   ·rw [getD_set]; split
    ·rfl
    ·rename_i hh; exact gT v (by omega)
  ·have hiN : i = N := by omega
   subst hiN
   have eL := eq_rep hL gL
   have eT := eq_rep hT gT
   subst eL eT
   rw [decide_eq_false (by omega), cond_false]
   unfold flow_graph_search_p167
   rw [guard_pos (by simp; omega), Int.toNat_natCast]
   have hg : ∀ v, v < i → ((List.replicate i (-1 : Int)).set s 0).getD v 0 = if v = s then 0 else -1 := by
    intro v hv
    rw [getD_set]
    by_cases hvs : v = s
    ·rw [if_pos ⟨hvs, by simpa using hs⟩, if_pos hvs]
    ·rw [if_neg (fun hx => hvs hx.1), if_neg hvs, List.getD_eq_getElem?_getD, List.getElem?_replicate, if_pos hv]; rfl
   refine search_q hA hE hO hs ht _ F hF F 0 _ [(s : Int)] (by simp) (by omega) ⟨by simp, ?_, fun x hx => ?_, fun v hv h0 => ?_, ?_, fun v hv => ?_, fun v hv => ?_, fun v hv h0 hvs => ?_⟩ ?_ (fun j hj => by omega)
   ·rw [countP_up (by simpa using hs) (by rw [List.getD_eq_getElem?_getD, List.getElem?_replicate, if_pos hs]; decide) (Int.le_refl 0), List.countP_replicate]; simp
   ·simp at hx; exact ⟨s, hx, hs, by rw [hg s hs, if_pos rfl]; exact Int.le_refl 0⟩
   ·rw [hg v hv] at h0
    split at h0
    ·rename_i he; rw [he]; simp
    ·omega
   ·rw [hg s hs, if_pos rfl]
   ·rw [hg v hv]; split <;> omega
   ·rw [hg v hv]; simp only [List.length_cons, List.length_nil]; split <;> omega
   ·rw [hg v hv, if_neg hvs] at h0; omega
   ·rw [hg t ht, if_neg (fun h => hst h.symm)]; decide
theorem search_eq {A : List SArc} {N : Nat} (hA : Net A N) {l : Nat → Int} {E : List SEdge} (hE : Ed A E l) {O : List (List Int)} (hO : Ou A N (2 * A.length) O) {s t : Nat} (hs : s < N) (ht : t < N) (hst : s ≠ t) (F : Nat) (hF : 100000000000000000 ≤ F) (L T : List Int) (hL : L.length = N) (hT : T.length = N) :
  ∃ L', flow_graph_search F E O L T (s : Int) (t : Int) = some (decide (0 ≤ L'.getD t 0), L', List.replicate N 0) ∧ SP A N l s t L' := by
 have hNn := hA.nodes
 unfold flow_graph_search
 exact search_0 hA hE hO hs ht hst F hF L hL F 0 L T (by omega) (by omega) hL hT (fun v hv => by omega) (fun v hv => by omega)
end Go.Proofs.Ytfefnffdocmlmaa.M
