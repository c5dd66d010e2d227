/- Plain laws of chapter 9: the reference's Reach, Capacity, Same, Greatest; the awake examples. -/
import Derived.Test.YtbepoingholchaaPlainD
namespace Go.Proofs.Ytbepoingholchaa.M
open Go Go.Proofs.Ytbepoingholchaa.E Go.Proofs.Ytbepoingholchaa.W
set_option linter.unusedVariables false
set_option linter.unusedSimpArgs false

def bset (R : List Bool) (v : Nat) : Bool := R.getD v false
def cnt (R : List Bool) : Nat := R.countP (fun b => b)

theorem cnt_up {R : List Bool} {v : Nat} (hv : v < R.length) (h : R.getD v false = false) : cnt (R.set v true) = cnt R + 1 := by
  unfold cnt
  rw [List.countP_set hv]
  have : R[v] = false := by rw [← getD_get (d := false) hv]; exact h
  rw [this]; simp
theorem cnt_le (R : List Bool) : cnt R ≤ R.length := List.countP_le_length

/-- What is known of the nodes that were found. -/
structure Rch (A : List SArc) (N : Nat) (l : Nat → Int) (s : Nat) (R : List Bool) : Prop where
  len : R.length = N
  src : R.getD s false = true
  min : ∀ X : Nat → Bool, X s = true → Closed A l X → ∀ v, v < N → R.getD v false = true → X v = true

theorem Rch.add {A : List SArc} {N : Nat} {l : Nat → Int} {s : Nat} {R : List Bool} (h : Rch A N l s R) {v : Nat} (hv : v < N) (hx : ∀ X : Nat → Bool, X s = true → Closed A l X → (∀ u, u < N → R.getD u false = true → X u = true) → X v = true) : Rch A N l s (R.set v true) := by
  refine ⟨by rw [List.length_set]; exact h.len, ?_, fun X hs hc u hu hR => ?_⟩
  · rw [getD_set]; split
    · rfl
    · exact h.src
  · rw [getD_set] at hR
    split at hR
    · rename_i hh; rw [hh.1]; exact hx X hs hc (fun u hu hR => h.min X hs hc u hu hR)
    · exact h.min X hs hc u hu hR

/-- What Reach returns. -/
def RL (A : List SArc) (N : Nat) (l : Nat → Int) (s : Nat) (x : Option (List Bool)) : Prop := ∃ R, x = some R ∧ R.length = N ∧ Least A N l s (bset R)

theorem reach_in {n : SNet} {N : Nat} (hN : GoodNet n N) {s : Nat} (hs : s < N) (ll : List Int) (hll : ll.length = n.Arcs.length) (round : Nat) (K : Int → List Bool → Option (List Bool)) (hround : round < N) (R0 : List Bool) (hR0 : Rch n.Arcs N (lf ll) s R0)
    (hK : ∀ R, Rch n.Arcs N (lf ll) s R → cnt R0 < cnt R → RL n.Arcs N (lf ll) s (K ((round + 1 : Nat) : Int) R)) :
    ∀ (k i : Nat) (done : Bool) (R : List Bool), i ≤ n.Arcs.length → n.Arcs.length < k + i → Rch n.Arcs N (lf ll) s R →
    (done = true → R = R0 ∧ ∀ j, j < i → (lf ll j < aC n.Arcs j → R0.getD (aF n.Arcs j) false = true → R0.getD (aT n.Arcs j) false = true) ∧ (0 < lf ll j → R0.getD (aT n.Arcs j) false = true → R0.getD (aF n.Arcs j) false = true)) →
    (done = false → cnt R0 < cnt R) → RL n.Arcs N (lf ll) s (chargenetref09_Reach_l216 n ll (round : Int) K k done (i : Int) R)
  | 0, i, done, R, h1, h2, _, _, _ => by omega
  | k + 1, i, done, R, h1, h2, hR, hd1, hd2 => by
    have hmost := hN.most
    have hlen := hN.len
    have hA := hN.net
    have hRl := hR.len
    simp only [chargenetref09_Reach_l216, chargenetref09_Reach_b216]
    by_cases hi : i < n.Arcs.length
    · obtain ⟨f1, f2⟩ := hA.f i hi
      obtain ⟨t1, t2⟩ := hA.t i hi
      have hne := hA.ne i hi
      -- the second half, from any state behind the first
      have half : ∀ (done' : Bool) (R' : List Bool), Rch n.Arcs N (lf ll) s R' → (done' = true → R' = R0 ∧ (∀ j, j < i → (lf ll j < aC n.Arcs j → R0.getD (aF n.Arcs j) false = true → R0.getD (aT n.Arcs j) false = true) ∧ (0 < lf ll j → R0.getD (aT n.Arcs j) false = true → R0.getD (aF n.Arcs j) false = true)) ∧ (lf ll i < aC n.Arcs i → R0.getD (aF n.Arcs i) false = true → R0.getD (aT n.Arcs i) false = true)) →
          (done' = false → cnt R0 < cnt R') → RL n.Arcs N (lf ll) s (chargenetref09_Reach_p231 n ll (i : Int) (fun done_191 i_192 o1_193 => chargenetref09_Reach_l216 n ll (round : Int) K k done_191 i_192 o1_193) done' R') := by
        intro done' R' hR' g1 g2
        have hRl' := hR'.len
        have next : (done' = true → (0 < lf ll i → R0.getD (aT n.Arcs i) false = true → R0.getD (aF n.Arcs i) false = true)) → RL n.Arcs N (lf ll) s (chargenetref09_Reach_p220 (i : Int) (fun done_191 i_192 o1_193 => chargenetref09_Reach_l216 n ll (round : Int) K k done_191 i_192 o1_193) done' R') := by
          intro hnext
          unfold chargenetref09_Reach_p220
          rw [wsucc i (by omega)]
          refine reach_in hN hs ll hll round K hround R0 hR0 hK k (i + 1) done' R' (by omega) (by omega) hR' (fun hd => ⟨(g1 hd).1, fun j hj => ?_⟩) g2
          by_cases hji : j = i
          · subst hji; exact ⟨(g1 hd).2.2, hnext hd⟩
          · exact (g1 hd).2.1 j (by omega)
        unfold chargenetref09_Reach_p231
        simp only [f1, t1, Int.toNat_natCast]
        rw [guard_pos (by omega)]
        cases b1 : R'.getD (aT n.Arcs i) false with
        | false =>
          rw [cond_false]
          exact next (fun hd _ h => by rw [← (g1 hd).1, b1] at h; cases h)
        | true =>
          rw [cond_true, guard_pos (by omega)]
          cases b2 : R'.getD (aF n.Arcs i) false with
          | true =>
            rw [Bool.not_true, cond_false]
            exact next (fun hd _ _ => by rw [← (g1 hd).1]; exact b2)
          | false =>
            rw [Bool.not_false, cond_true, guard_pos (by omega)]
            by_cases b3 : 0 < ll.getD i 0
            · rw [decide_eq_true b3, cond_true, guard_pos (by omega)]
              unfold chargenetref09_Reach_p220
              rw [wsucc i (by omega)]
              have hup := cnt_up (R := R') (v := aF n.Arcs i) (by omega) b2
              have hadd := hR'.add f2 (fun X hs' hc hX => (hc i hi).2 b3 (hX _ t2 b1))
              refine reach_in hN hs ll hll round K hround R0 hR0 hK k (i + 1) false _ (by omega) (by omega) hadd (fun h => by cases h) (fun _ => ?_)
              rw [hup]
              cases hdn : done' with
              | true => rw [(g1 hdn).1]; omega
              | false => have := g2 hdn; omega
            · rw [decide_eq_false b3, cond_false]
              exact next (fun _ h => absurd h b3)
      have keep : ((done = true) → (lf ll i < aC n.Arcs i → R0.getD (aF n.Arcs i) false = true → R0.getD (aT n.Arcs i) false = true)) → RL n.Arcs N (lf ll) s (chargenetref09_Reach_p231 n ll (i : Int) (fun done_191 i_192 o1_193 => chargenetref09_Reach_l216 n ll (round : Int) K k done_191 i_192 o1_193) done R) :=
        fun h => half done R hR (fun hd => ⟨(hd1 hd).1, (hd1 hd).2, h hd⟩) hd2
      rw [decide_eq_true (by omega), cond_true, guard_pos (by omega)]
      simp only [f1, t1, Int.toNat_natCast]
      rw [guard_pos (by omega)]
      cases b1 : R.getD (aF n.Arcs i) false with
      | false =>
        rw [cond_false]
        exact keep (fun hd _ h => by rw [← (hd1 hd).1, b1] at h; cases h)
      | true =>
        rw [cond_true, guard_pos (by omega)]
        cases b2 : R.getD (aT n.Arcs i) false with
        | true =>
          rw [Bool.not_true, cond_false]
          exact keep (fun hd _ _ => by rw [← (hd1 hd).1]; exact b2)
        | false =>
          rw [Bool.not_false, cond_true, guard_pos (by omega)]
          by_cases b3 : ll.getD i 0 < (n.Arcs.getD i dSArc).Cap
          · rw [decide_eq_true b3, cond_true, guard_pos (by omega)]
            have hup := cnt_up (R := R) (v := aT n.Arcs i) (by omega) b2
            have hadd := hR.add t2 (fun X hs' hc hX => (hc i hi).1 b3 (hX _ f2 b1))
            refine half false _ hadd (fun h => by cases h) (fun _ => ?_)
            rw [hup]
            cases hdn : done with
            | true => rw [(hd1 hdn).1]; omega
            | false => have := hd2 hdn; omega
          · rw [decide_eq_false b3, cond_false]
            exact keep (fun _ h => absurd h b3)
    · rw [decide_eq_false (by omega), cond_false]
      unfold chargenetref09_Reach_p168
      cases hdn : done with
      | true =>
        rw [cond_true]
        obtain ⟨e1, e2⟩ := hd1 hdn
        subst e1
        exact ⟨R, rfl, hR.len, hR.src, fun j hj => e2 j (by omega), hR.min⟩
      | false =>
        rw [cond_false]
        unfold chargenetref09_Reach_p164
        rw [wsucc round (by omega)]
        exact hK R hR (hd2 hdn)

theorem reach_l {n : SNet} {N : Nat} (hN : GoodNet n N) {s : Nat} (hs : s < N) (ll : List Int) (hll : ll.length = n.Arcs.length) (F : Nat) (hF : 100000000000000000 ≤ F) : ∀ (k round : Nat) (R : List Bool), N < k + round → round < cnt R → Rch n.Arcs N (lf ll) s R → RL n.Arcs N (lf ll) s (chargenetref09_Reach_l161 F n ll k (round : Int) R)
  | 0, round, R, h1, h2, hR => by have := cnt_le R; have := hR.len; omega
  | k + 1, round, R, h1, h2, hR => by
    have hc := cnt_le R
    have hRl := hR.len
    have hlen := hN.len
    simp only [chargenetref09_Reach_l161, chargenetref09_Reach_b161]
    rw [decide_eq_true (by rw [hN.nodes]; omega), cond_true]
    exact reach_in hN hs ll hll round _ (by omega) R hR (fun R' hR' hlt => reach_l hN hs ll hll F hF k (round + 1) R' (by omega) (by omega) hR') F 0 true R (by omega) (by omega) hR (fun _ => ⟨rfl, fun j hj => by omega⟩) (fun h => by cases h)

theorem reach_eq {n : SNet} {N : Nat} (hN : GoodNet n N) {s : Nat} (hs : s < N) (ll : List Int) (hll : ll.length = n.Arcs.length) (F : Nat) (hF : 100000000000000000 ≤ F) : ∃ R, chargenetref09_Reach F n (s : Int) ll = some R ∧ R.length = N ∧ Least n.Arcs N (lf ll) s (bset R) := by
  have hmost := hN.most
  unfold chargenetref09_Reach
  rw [hN.nodes, Int.toNat_natCast, Int.toNat_natCast, guard_pos (by omega), guard_pos (by simp; omega)]
  have hg : ∀ v, v < N → ((List.replicate N false).set s true).getD v false = if v = s then true else false := by
    intro v hv
    rw [getD_set, getD_rep]
    by_cases h : v = s
    · rw [if_pos ⟨h, by simpa using hs⟩, if_pos h]
    · rw [if_neg (fun hh => h hh.1), if_neg h]
  have hc : 0 < cnt ((List.replicate N false).set s true) := by
    rw [cnt_up (by simpa using hs) (by rw [getD_rep])]; omega
  exact reach_l hN hs ll hll F hF F 0 _ (by omega) hc ⟨by simp, by rw [hg s hs, if_pos rfl], fun X hXs hcl v hv hR => by
    rw [hg v hv] at hR
    split at hR
    · rename_i he; rw [he]; exact hXs
    · cases hR⟩

/-! ### Capacity -/
theorem cap_l {n : SNet} {N : Nat} (hN : GoodNet n N) (c : List Bool) (hc : c.length = N) : ∀ (k i : Nat), i ≤ n.Arcs.length → n.Arcs.length < k + i →
    chargenetref09_Capacity_l25 n c k (S (fun i => if bset c (aF n.Arcs i) = true ∧ bset c (aT n.Arcs i) = false then aC n.Arcs i else 0) i) (i : Int) = some (cap n.Arcs (bset c))
  | 0, i, h1, h2 => by omega
  | k + 1, i, h1, h2 => by
    have hmost := hN.most
    have hlen := hN.len
    have hA := hN.net
    simp only [chargenetref09_Capacity_l25, chargenetref09_Capacity_b25]
    by_cases hi : i < n.Arcs.length
    · obtain ⟨f1, f2⟩ := hA.f i hi
      obtain ⟨t1, t2⟩ := hA.t i hi
      have hcc := hA.c i hi
      have hb : 0 ≤ S (fun i => if bset c (aF n.Arcs i) = true ∧ bset c (aT n.Arcs i) = false then aC n.Arcs i else 0) i ∧ S (fun i => if bset c (aF n.Arcs i) = true ∧ bset c (aT n.Arcs i) = false then aC n.Arcs i else 0) i ≤ 1099511627776 * i := by
        refine ⟨S_nonneg fun j hj => ?_, S_const_le fun j hj => ?_⟩
        · have := hA.c j (by omega); split <;> omega
        · have := hA.c j (by omega); split <;> omega
      have next : ∀ x : Int, x = (if bset c (aF n.Arcs i) = true ∧ bset c (aT n.Arcs i) = false then aC n.Arcs i else 0) → chargenetref09_Capacity_p28 (i : Int) (fun sum_13 i_14 => chargenetref09_Capacity_l25 n c k sum_13 i_14) (S (fun i => if bset c (aF n.Arcs i) = true ∧ bset c (aT n.Arcs i) = false then aC n.Arcs i else 0) i + x) = some (cap n.Arcs (bset c)) := by
        intro x hx
        unfold chargenetref09_Capacity_p28
        rw [wsucc i (by omega)]
        have := cap_l hN c hc k (i + 1) (by omega) (by omega)
        simp only [S] at this
        rw [hx]; exact this
      rw [decide_eq_true (by omega), cond_true, guard_pos (by omega)]
      simp only [f1, t1, Int.toNat_natCast]
      rw [guard_pos (by omega)]
      cases b1 : c.getD (aF n.Arcs i) false with
      | false =>
        rw [cond_false]
        have := next 0 (by unfold bset; rw [b1]; simp)
        rwa [Int.add_zero] at this
      | true =>
        rw [cond_true, guard_pos (by omega), guard_pos (by omega)]
        cases b2 : c.getD (aT n.Arcs i) false with
        | true =>
          rw [Bool.not_true, cond_false]
          have := next 0 (by unfold bset; rw [b1, b2]; simp)
          rwa [Int.add_zero] at this
        | false =>
          rw [Bool.not_false, cond_true, guard_pos (by omega)]
          have hw : IntKind.wrap .i64 (S (fun i => if bset c (aF n.Arcs i) = true ∧ bset c (aT n.Arcs i) = false then aC n.Arcs i else 0) i + (n.Arcs.getD i dSArc).Cap) = S (fun i => if bset c (aF n.Arcs i) = true ∧ bset c (aT n.Arcs i) = false then aC n.Arcs i else 0) i + aC n.Arcs i := Go.IntWalk.i64_in _ (by unfold aC at hcc; omega)
          rw [hw]
          exact next _ (by unfold bset; rw [b1, b2]; simp)
    · rw [decide_eq_false (by omega), cond_false]
      unfold chargenetref09_Capacity_p2 cap
      rw [show i = n.Arcs.length by omega]

theorem cap_eq (F : Nat) (hF : 100000000000000000 ≤ F) {n : SNet} {N : Nat} (hN : GoodNet n N) (c : List Bool) (hc : c.length = N) : chargenetref09_Capacity F n c = some (cap n.Arcs (bset c)) := by
  have hlen := hN.len
  unfold chargenetref09_Capacity
  exact cap_l hN c hc F 0 (by omega) (by omega)

theorem same_l (a b : List Bool) (hl : a.length = b.length) (h5 : a.length ≤ 65536) (h : ∀ v, v < a.length → a.getD v false = b.getD v false) : ∀ (k i : Nat), i ≤ a.length → a.length < k + i → chargenetref09_Same_l12 a b k (i : Int) = some true
  | 0, i, h1, h2 => by omega
  | k + 1, i, h1, h2 => by
    simp only [chargenetref09_Same_l12, chargenetref09_Same_b12]
    by_cases hi : i < a.length
    · rw [decide_eq_true (by omega), cond_true, guard_pos (by omega), guard_pos (by omega), Int.toNat_natCast, h i hi]
      simp only [BEq.rfl, Bool.not_true, cond_false]
      rw [wsucc i (by omega)]
      exact same_l a b hl h5 h k (i + 1) (by omega) (by omega)
    · rw [decide_eq_false (by omega)]; rfl

theorem same_eq (F : Nat) (hF : 100000000000000000 ≤ F) (a b : List Bool) (hl : a.length = b.length) (h5 : a.length ≤ 65536) (h : ∀ v, v < a.length → a.getD v false = b.getD v false) : chargenetref09_Same F a b = some true := by
  unfold chargenetref09_Same
  rw [decide_eq_true (by omega), Bool.not_true, cond_false]
  exact same_l a b hl h5 h F 0 (by omega) (by omega)

/-! ### Flows as lists -/
theorem out_congr {A : List SArc} {l l' : Nat → Int} (h : ∀ i, i < A.length → l i = l' i) (v : Nat) : out A l v = out A l' v := by
  unfold out
  exact S_congr fun i hi => by rw [h i hi]
theorem Flow.congr {A : List SArc} {N s t : Nat} {l l' : Nat → Int} (h : ∀ i, i < A.length → l i = l' i) (hf : Flow A N s t l) : Flow A N s t l' :=
  ⟨fun i hi => by rw [← h i hi]; exact hf.bd i hi, fun v hv h1 h2 => by rw [← out_congr h]; exact hf.cons v hv h1 h2⟩
theorem Closed.congr {A : List SArc} {l l' : Nat → Int} {X : Nat → Bool} (h : ∀ i, i < A.length → l i = l' i) (hf : Closed A l X) : Closed A l' X := fun i hi => by rw [← h i hi]; exact hf i hi
theorem Least.congr {A : List SArc} {N s : Nat} {l l' : Nat → Int} {R : Nat → Bool} (h : ∀ i, i < A.length → l i = l' i) (hf : Least A N l s R) : Least A N l' s R :=
  ⟨hf.src, hf.cl.congr h, fun X hs hc => hf.min X hs (hc.congr (fun i hi => (h i hi).symm))⟩
theorem Great.congr {A : List SArc} {N s t : Nat} {l l' : Nat → Int} {R : Nat → Bool} (h : ∀ i, i < A.length → l i = l' i) (hf : Great A N s t l R) : Great A N s t l' R := ⟨hf.flow.congr h, hf.least.congr h, hf.snk⟩

/-- Greatest says yes to Max. -/
theorem greatest_eq (F : Nat) (hF : 100000000000000000 ≤ F) {n : SNet} {N : Nat} (hN : GoodNet n N) {s t : Nat} (hs : s < N) (ht : t < N) (hv : chargenetref09_Ends F n (s : Int) (t : Int) = some 0) (ll : List Int) (hll : ll.length = n.Arcs.length) {R : Nat → Bool} (hg : Great n.Arcs N s t (lf ll) R) :
    chargenetref09_Greatest F n (s : Int) (t : Int) (out n.Arcs (lf ll) s) ll = some true := by
  obtain ⟨R', h1, h2, h3⟩ := reach_eq hN hs ll hll F hF
  unfold chargenetref09_Greatest
  rw [check_flow F hF n N hN s t hs hv ll hll hg.flow, Option.bind_some, cond_true, decide_eq_true rfl, cond_true, h1, Option.bind_some, guard_pos (by omega), Int.toNat_natCast]
  have := h3.uniq hg.least t ht
  rw [hg.snk] at this
  unfold bset at this
  rw [this]; rfl

def FF : Nat := 1152921504606846976
theorem FF_ge : 100000000000000000 ≤ FF := by decide
theorem awake_ok : chargenetlaw09_awake FF = some true := by rfl
theorem small_eq (F : Nat) (n : SNet) (a b : Int) : chargenetref09_Small F n a b = some (decide (n.Nodes ≤ a ∧ (n.Arcs.length : Int) ≤ b)) := by
  unfold chargenetref09_Small
  by_cases h : n.Nodes ≤ a
  · rw [decide_eq_true h]; simp [h]
  · rw [decide_eq_false h]; simp [h]
end Go.Proofs.Ytbepoingholchaa.M
