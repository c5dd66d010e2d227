/- Plain laws: flows and cuts. -/
import Derived.Test.YtfefnffdocmlmaaRead
import Derived.IntWalk
namespace Go.Proofs.Ytfefnffdocmlmaa.M
open Go Go.Proofs.Ytfefnffdocmlmaa.E Go.Proofs.Ytfefnffdocmlmaa.W
set_option linter.unusedVariables false
set_option linter.unusedSimpArgs false
theorem wsucc (t : Nat) (h : t < 1000000000000) : IntKind.wrap .i64 ((t : Int) + 1) = ((t + 1 : Nat) : Int) := by
 rw [Go.IntWalk.i64_in _ (by omega)]; simp
theorem guard_pos {α : Type} {c : Prop} [Decidable c] {x : Option α} (h : c) : E.guard c x = x := by simp [E.guard, h]
theorem getD_set {α : Type} (l : List α) (i j : Nat) (x d : α) : (l.set i x).getD j d = if j = i ∧ i < l.length then x else l.getD j d := by
 rw [List.getD_eq_getElem?_getD, List.getElem?_set, List.getD_eq_getElem?_getD]
 by_cases h : i = j
 ·subst h
  by_cases h2 : i < l.length
  ·simp [h2]
  ·simp [h2]
 ·rw [if_neg h, if_neg (fun hh => h hh.1.symm)]
theorem getD_append {α : Type} (l r : List α) (j : Nat) (d : α) : (l ++ r).getD j d = if j < l.length then l.getD j d else r.getD (j - l.length) d := by
 rw [List.getD_eq_getElem?_getD, List.getElem?_append]
 split <;> rw [List.getD_eq_getElem?_getD]
theorem getD_rep {α : Type} (n j : Nat) (x : α) : (List.replicate n x).getD j x = x := by
 rw [List.getD_eq_getElem?_getD, List.getElem?_replicate]; split <;> rfl
theorem mem_getD {α : Type} {l : List α} {d : α} {j : Nat} (h : j < l.length) : l.getD j d ∈ l := by
 rw [List.getD_eq_getElem?_getD, List.getElem?_eq_getElem h]; exact List.getElem_mem h
theorem getD_get {α : Type} {l : List α} {d : α} {j : Nat} (h : j < l.length) : l.getD j d = l[j] := by
 rw [List.getD_eq_getElem?_getD, List.getElem?_eq_getElem h]; rfl
def S (g : Nat → Int) : Nat → Int
 | 0 => 0
 | n + 1 => S g n + g n
theorem S_congr {g g' : Nat → Int} : ∀ {n : Nat}, (∀ i, i < n → g i = g' i) → S g n = S g' n
 | 0, _ => rfl
 | n + 1, h => by rw [S, S, S_congr (fun i hi => h i (by omega)), h n (by omega)]
theorem S_zero : ∀ n : Nat, S (fun _ => 0) n = 0
 | 0 => rfl
 | n + 1 => by rw [S, S_zero n]; rfl
theorem S_add (g g' : Nat → Int) : ∀ n : Nat, S (fun i => g i + g' i) n = S g n + S g' n
 | 0 => rfl
 | n + 1 => by rw [S, S, S, S_add g g' n]; omega
theorem S_sub (g g' : Nat → Int) : ∀ n : Nat, S (fun i => g i - g' i) n = S g n - S g' n
 | 0 => rfl
 | n + 1 => by rw [S, S, S, S_sub g g' n]; omega
theorem S_le {g g' : Nat → Int} : ∀ {n : Nat}, (∀ i, i < n → g i ≤ g' i) → S g n ≤ S g' n
 | 0, _ => Int.le_refl _
 | n + 1, h => by
  have := S_le (n := n) (fun i hi => h i (by omega))
  have := h n (by omega)
  rw [S, S]; omega
theorem S_const_le {g : Nat → Int} {c : Int} : ∀ {n : Nat}, (∀ i, i < n → g i ≤ c) → S g n ≤ c * n
 | 0, _ => by simp [S]
 | n + 1, h => by
  have h1 := S_const_le (n := n) (fun i hi => h i (by omega))
  have h2 := h n (by omega)
  rw [S, show ((n + 1 : Nat) : Int) = (n : Int) + 1 by omega, Int.mul_add]; omega
theorem S_one (f : Nat) (x : Int) : ∀ n : Nat, S (fun v => if f = v then x else 0) n = if f < n then x else 0
 | 0 => by simp [S]
 | n + 1 => by
  rw [S, S_one f x n]
  by_cases h : f < n
  ·rw [if_pos h, if_neg (by omega), if_pos (by omega)]; omega
  ·by_cases h2 : f = n
   ·rw [if_neg h, if_pos h2, if_pos (by omega)]; omega
   ·rw [if_neg h, if_neg h2, if_neg (by omega)]; rfl
theorem S_swap (g : Nat → Nat → Int) (m : Nat) : ∀ n : Nat, S (fun v => S (fun i => g v i) m) n = S (fun i => S (fun v => g v i) n) m
 | 0 => by simp only [S]; rw [S_zero]
 | n + 1 => by simp only [S]; rw [S_swap g m n, S_add]
theorem S_upd (g g' : Nat → Int) (i0 : Nat) : ∀ n : Nat, (∀ i, i < n → i ≠ i0 → g' i = g i) → S g' n = S g n + (if i0 < n then g' i0 - g i0 else 0)
 | 0, _ => by simp [S]
 | n + 1, h => by
  rw [S, S, S_upd g g' i0 n (fun i hi => h i (by omega))]
  by_cases h1 : i0 = n
  ·subst h1
   rw [if_neg (by omega), if_pos (by omega)]; omega
  ·rw [h n (by omega) (fun hh => h1 hh.symm)]
   by_cases h2 : i0 < n
   ·rw [if_pos h2, if_pos (by omega)]; omega
   ·rw [if_neg h2, if_neg (by omega)]; omega
def aF (A : List SArc) (i : Nat) : Nat := (A.getD i dSArc).From.toNat
def aT (A : List SArc) (i : Nat) : Nat := (A.getD i dSArc).To.toNat
def aC (A : List SArc) (i : Nat) : Int := (A.getD i dSArc).Cap
structure Net (A : List SArc) (N : Nat) : Prop where
 f : ∀ i, i < A.length → (A.getD i dSArc).From = (aF A i : Int) ∧ aF A i < N
 t : ∀ i, i < A.length → (A.getD i dSArc).To = (aT A i : Int) ∧ aT A i < N
 ne : ∀ i, i < A.length → aF A i ≠ aT A i
 c : ∀ i, i < A.length → 0 ≤ aC A i ∧ aC A i ≤ 1099511627776
 len : A.length ≤ 65536
 nodes : N ≤ 65536
def out (A : List SArc) (l : Nat → Int) (v : Nat) : Int := S (fun i => (if aF A i = v then l i else 0) - (if aT A i = v then l i else 0)) A.length
structure Flow (A : List SArc) (N s t : Nat) (l : Nat → Int) : Prop where
 bd : ∀ i, i < A.length → 0 ≤ l i ∧ l i ≤ aC A i
 cons : ∀ v, v < N → v ≠ s → v ≠ t → out A l v = 0
def cap (A : List SArc) (X : Nat → Bool) : Int := S (fun i => if X (aF A i) = true ∧ X (aT A i) = false then aC A i else 0) A.length
theorem sum_cut (A : List SArc) (N : Nat) (hA : Net A N) (l : Nat → Int) (X : Nat → Bool) :
  S (fun v => if X v = true then out A l v else 0) N = S (fun i => (if X (aF A i) = true ∧ X (aT A i) = false then l i else 0) - (if X (aT A i) = true ∧ X (aF A i) = false then l i else 0)) A.length := by
 have e1 : S (fun v => if X v = true then out A l v else 0) N = S (fun v => S (fun i => if X v = true then (if aF A i = v then l i else 0) - (if aT A i = v then l i else 0) else 0) A.length) N := by
  refine S_congr fun v _ => ?_
  by_cases h : X v = true
  ·simp only [h, if_true]; rfl
  ·rw [if_neg h]; exact (S_zero A.length).symm.trans (S_congr fun i _ => (if_neg h).symm)
 rw [e1, S_swap]
 refine S_congr fun i hi => ?_
 have e2 : S (fun v => if X v = true then (if aF A i = v then l i else 0) - (if aT A i = v then l i else 0) else 0) N = S (fun v => if aF A i = v then (if X (aF A i) = true then l i else 0) else 0) N - S (fun v => if aT A i = v then (if X (aT A i) = true then l i else 0) else 0) N := by
  rw [← S_sub]
  refine S_congr fun v _ => ?_
  by_cases h1 : aF A i = v <;> by_cases h2 : aT A i = v <;> by_cases h3 : X v = true <;> simp [h1, h2, h3]
 rw [e2, S_one, S_one, if_pos (hA.f i hi).2, if_pos (hA.t i hi).2]
 cases X (aF A i) <;> cases X (aT A i) <;> simp
theorem cut_val {A : List SArc} {N s t : Nat} (hA : Net A N) {l : Nat → Int} (hl : Flow A N s t l) {X : Nat → Bool} (hs : s < N) (hXs : X s = true) (hXt : X t = false) :
  out A l s = S (fun i => (if X (aF A i) = true ∧ X (aT A i) = false then l i else 0) - (if X (aT A i) = true ∧ X (aF A i) = false then l i else 0)) A.length := by
 rw [← sum_cut A N hA l X]
 have : S (fun v => if X v = true then out A l v else 0) N = S (fun v => if s = v then out A l s else 0) N := by
  refine S_congr fun v hv => ?_
  by_cases h1 : s = v
  ·subst h1; simp [hXs]
  ·rw [if_neg h1]
   by_cases h2 : v = t
   ·subst h2; simp [hXt]
   ·rw [hl.cons v hv (fun h => h1 h.symm) h2]; simp
 rw [this, S_one, if_pos hs]
theorem val_le_cap {A : List SArc} {N s t : Nat} (hA : Net A N) {l : Nat → Int} (hl : Flow A N s t l) {X : Nat → Bool} (hs : s < N) (hXs : X s = true) (hXt : X t = false) : out A l s ≤ cap A X := by
 rw [cut_val hA hl hs hXs hXt]
 refine S_le fun i hi => ?_
 have := hl.bd i hi
 split <;> split <;> omega
def Closed (A : List SArc) (l : Nat → Int) (X : Nat → Bool) : Prop :=
 ∀ i, i < A.length → (l i < aC A i → X (aF A i) = true → X (aT A i) = true) ∧ (0 < l i → X (aT A i) = true → X (aF A i) = true)
theorem val_eq_cap {A : List SArc} {N s t : Nat} (hA : Net A N) {l : Nat → Int} (hl : Flow A N s t l) {X : Nat → Bool} (hs : s < N) (hXs : X s = true) (hXt : X t = false) (hc : Closed A l X) : out A l s = cap A X := by
 rw [cut_val hA hl hs hXs hXt]
 refine S_congr fun i hi => ?_
 obtain ⟨h1, h2⟩ := hl.bd i hi
 obtain ⟨h3, h4⟩ := hc i hi
 by_cases h5 : X (aF A i) = true <;> by_cases h6 : X (aT A i) = true
 ·simp [h5, h6]
 ·have : ¬ l i < aC A i := fun h => h6 (h3 h h5)
  simp [h5, h6]; omega
 ·have : ¬ 0 < l i := fun h => h5 (h4 h h6)
  simp [h5, h6]; omega
 ·simp [h5, h6]
theorem S_eq_terms {g g' : Nat → Int} : ∀ {n : Nat}, (∀ i, i < n → g i ≤ g' i) → S g n = S g' n → ∀ i, i < n → g i = g' i
 | 0, _, _, i, hi => by omega
 | n + 1, h, he, i, hi => by
  have h1 := S_le (n := n) (fun i hi => h i (by omega))
  have h2 := h n (by omega)
  simp only [S] at he
  by_cases hin : i = n
  ·subst hin; omega
  ·exact S_eq_terms (n := n) (fun i hi => h i (by omega)) (by omega) i (by omega)
theorem closed_of_cap {A : List SArc} {N s t : Nat} (hA : Net A N) {l : Nat → Int} (hl : Flow A N s t l) {X : Nat → Bool} (hs : s < N) (hXs : X s = true) (hXt : X t = false) (he : cap A X = out A l s) : Closed A l X := by
 rw [cut_val hA hl hs hXs hXt] at he
 have key := S_eq_terms (n := A.length) (fun i hi => by
  have := hl.bd i hi
  show (if X (aF A i) = true ∧ X (aT A i) = false then l i else 0) - (if X (aT A i) = true ∧ X (aF A i) = false then l i else 0) ≤ (if X (aF A i) = true ∧ X (aT A i) = false then aC A i else 0)
  split <;> split <;> omega) he.symm
 intro i hi
 have h1 := key i hi
 have h2 := hl.bd i hi
 refine ⟨fun h3 h4 => ?_, fun h3 h4 => ?_⟩
 ·cases h5 : X (aT A i) with
  | true => rfl
  | false => simp [h4, h5] at h1; omega
 ·cases h5 : X (aF A i) with
  | true => rfl
  | false => simp [h4, h5] at h1; omega
structure Least (A : List SArc) (N : Nat) (l : Nat → Int) (s : Nat) (R : Nat → Bool) : Prop where
 src : R s = true
 cl : Closed A l R
 min : ∀ X : Nat → Bool, X s = true → Closed A l X → ∀ v, v < N → R v = true → X v = true
structure Great (A : List SArc) (N s t : Nat) (l : Nat → Int) (R : Nat → Bool) : Prop where
 flow : Flow A N s t l
 least : Least A N l s R
 snk : R t = false
theorem Great.cap {A : List SArc} {N s t : Nat} {l : Nat → Int} {R : Nat → Bool} (h : Great A N s t l R) (hA : Net A N) (hs : s < N) : out A l s = cap A R := val_eq_cap hA h.flow hs h.least.src h.snk h.least.cl
theorem Great.val {A : List SArc} {N s t : Nat} {l l' : Nat → Int} {R R' : Nat → Bool} (h : Great A N s t l R) (h' : Great A N s t l' R') (hA : Net A N) (hs : s < N) : out A l s = out A l' s := by
 have h1 := val_le_cap hA h.flow hs h'.least.src h'.snk
 have h2 := val_le_cap hA h'.flow hs h.least.src h.snk
 rw [← h'.cap hA hs] at h1
 rw [← h.cap hA hs] at h2
 omega
theorem Great.sub {A : List SArc} {N s t : Nat} {l : Nat → Int} {R X : Nat → Bool} (h : Great A N s t l R) (hA : Net A N) (hs : s < N) (hXs : X s = true) (hXt : X t = false) (he : M.cap A X = out A l s) (v : Nat) (hv : v < N) (hR : R v = true) : X v = true :=
 h.least.min X hXs (closed_of_cap hA h.flow hs hXs hXt he) v hv hR
theorem out_le (A : List SArc) (l : Nat → Int) (v : Nat) (hb : ∀ i, i < A.length → 0 ≤ l i ∧ l i ≤ 1099511627776) : -(1099511627776 * A.length) ≤ out A l v ∧ out A l v ≤ 1099511627776 * A.length := by
 unfold out
 refine ⟨?_, S_const_le fun i hi => ?_⟩
 ·have := S_const_le (g := fun i => -((if aF A i = v then l i else 0) - (if aT A i = v then l i else 0))) (c := 1099511627776) (n := A.length) (fun i hi => by
   have := hb i hi
   show -((if aF A i = v then l i else 0) - (if aT A i = v then l i else 0)) ≤ _
   split <;> split <;> omega)
  have e : S (fun i => -((if aF A i = v then l i else 0) - (if aT A i = v then l i else 0))) A.length = - S (fun i => (if aF A i = v then l i else 0) - (if aT A i = v then l i else 0)) A.length := by
   have := S_sub (fun _ => 0) (fun i => (if aF A i = v then l i else 0) - (if aT A i = v then l i else 0)) A.length
   rw [S_zero] at this
   rw [show - S (fun i => (if aF A i = v then l i else 0) - (if aT A i = v then l i else 0)) A.length = 0 - S (fun i => (if aF A i = v then l i else 0) - (if aT A i = v then l i else 0)) A.length by omega, ← this]
   exact S_congr fun i _ => by omega
  omega
 ·have := hb i hi
  split <;> split <;> omega
end Go.Proofs.Ytfefnffdocmlmaa.M
