/- Plain laws of chapter 18: the networks, and what fits. -/
import Derived.Test.YtfefnffdocmlmaaPlainE
import Derived.Test.YtfefnffdocmlmaaPlainH
namespace Go.Proofs.Ytfefnffdocmlmaa.M
open Go Go.Proofs Go.Proofs.Ytfefnffdocmlmaa.E Go.Proofs.Ytfefnffdocmlmaa.W
set_option linter.unusedVariables false
set_option linter.unusedSimpArgs false
def nod (p : SProblem) (t f : Nat) : Nat := 2 + p.Demands.length + t * p.Parents.length + f
def srcA (x : Int) (i : Nat) : SArc := ⟨0, ((2 + i : Nat) : Int), x⟩
def useA (p : SProblem) (i t : Nat) : SArc := ⟨((2 + i : Nat) : Int), (nod p t (D p i).Feeder.toNat : Int), (D p i).Max * p.Length⟩
def up (p : SProblem) (t f : Nat) : Nat := bif decide (0 ≤ p.Parents.getD f 0) then nod p t (p.Parents.getD f 0).toNat else 1
def lim (p : SProblem) (t f : Nat) : Int := if 1099511627776 < (p.Caps.getD t []).getD f 0 * p.Length then 1099511627776 else (p.Caps.getD t []).getD f 0 * p.Length
def feedA (p : SProblem) (t f : Nat) : SArc := ⟨(nod p t f : Int), (up p t f : Int), lim p t f⟩
def Us (p : SProblem) (i : Nat) : Nat → List SArc
 | 0 => []
 | t + 1 => Us p i t ++ (bif us p (D p i) t then [useA p i t] else [])
def Fs (p : SProblem) (t : Nat) : Nat → List SArc
 | 0 => []
 | f + 1 => Fs p t f ++ [feedA p t f]
def AllF (p : SProblem) : Nat → List SArc
 | 0 => []
 | t + 1 => AllF p t ++ Fs p t p.Parents.length
def Src (e : Nat → Int) : Nat → List SArc
 | 0 => []
 | i + 1 => Src e i ++ [srcA (e i) i]
def AllU (p : SProblem) : Nat → List SArc
 | 0 => []
 | i + 1 => AllU p i ++ Us p i p.Caps.length
def RefD (p : SProblem) (e : Nat → Int) : Nat → List SArc
 | 0 => []
 | i + 1 => RefD p e i ++ [srcA (e i) i] ++ Us p i p.Caps.length
def PA (p : SProblem) (e : Nat → Int) : List SArc := Src e p.Demands.length ++ AllU p p.Demands.length ++ AllF p p.Caps.length
def RA (p : SProblem) (e : Nat → Int) : List SArc := RefD p e p.Demands.length ++ AllF p p.Caps.length
def NN (p : SProblem) : Nat := 2 + p.Demands.length + p.Caps.length * p.Parents.length
theorem Us_len (p : SProblem) (i : Nat) : ∀ t, (Us p i t).length ≤ t
 | 0 => Nat.le_refl _
 | t + 1 => by
  have := Us_len p i t
  simp only [Us, List.length_append]
  cases us p (D p i) t <;> simp <;> omega
theorem Fs_len (p : SProblem) (t : Nat) : ∀ f, (Fs p t f).length = f
 | 0 => rfl
 | f + 1 => by simp [Fs, Fs_len p t f]
theorem AllF_len (p : SProblem) : ∀ t, (AllF p t).length = t * p.Parents.length
 | 0 => by simp [AllF]
 | t + 1 => by simp [AllF, AllF_len p t, Fs_len, Nat.succ_mul]
theorem Src_len (e : Nat → Int) : ∀ n, (Src e n).length = n
 | 0 => rfl
 | n + 1 => by simp [Src, Src_len e n]
theorem AllU_len (p : SProblem) : ∀ i, (AllU p i).length ≤ i * p.Caps.length
 | 0 => by simp [AllU]
 | i + 1 => by
  have h1 := AllU_len p i
  have h2 := Us_len p i p.Caps.length
  simp only [AllU, List.length_append, Nat.succ_mul]
  omega
theorem RefD_len (p : SProblem) (e : Nat → Int) : ∀ i, (RefD p e i).length ≤ i + i * p.Caps.length
 | 0 => by simp [RefD]
 | i + 1 => by
  have h1 := RefD_len p e i
  have h2 := Us_len p i p.Caps.length
  simp only [RefD, List.length_append, Nat.succ_mul, List.length_singleton]
  omega
section
variable {p : SProblem}
theorem VP.prod (h : VP p) : p.Demands.length * p.Caps.length ≤ 768 := Nat.mul_le_mul h.nd h.nc
theorem PA_len (h : VP p) (e : Nat → Int) : (PA p e).length ≤ 1100 := by
 have h1 := h.prod
 have h2 := AllU_len p p.Demands.length
 have h3 := h.nodes
 have h4 := h.nd
 unfold PA
 simp only [List.length_append, Src_len, AllF_len]
 omega
theorem RA_len (h : VP p) (e : Nat → Int) : (RA p e).length ≤ 1100 := by
 have h1 := h.prod
 have h2 := RefD_len p e p.Demands.length
 have h3 := h.nodes
 have h4 := h.nd
 unfold RA
 simp only [List.length_append, AllF_len]
 omega
theorem nod_lt {t f : Nat} (ht : t < p.Caps.length) (hf : f < p.Parents.length) : nod p t f < NN p := by
 have : (t + 1) * p.Parents.length ≤ p.Caps.length * p.Parents.length := Nat.mul_le_mul_right _ ht
 rw [Nat.succ_mul] at this
 unfold nod NN
 omega
def okA (p : SProblem) (a : SArc) : Prop := okArc ⟨(NN p : Int), []⟩ a
theorem okA_src {x : Int} {i : Nat} (hi : i < p.Demands.length) (hx : 0 ≤ x ∧ x ≤ 1099511627776) : okA p (srcA x i) := by
 unfold okA okArc srcA NN
 simp only
 omega
theorem okA_use (h : VP p) {i t : Nat} (hi : i < p.Demands.length) (ht : t < p.Caps.length) : okA p (useA p i t) := by
 have h1 := h.dem i hi
 have h2 := h.ml hi
 unfold okDem at h1
 have h3 : nod p t (D p i).Feeder.toNat < NN p := nod_lt ht (by unfold D; omega)
 have h4 : 2 + p.Demands.length ≤ nod p t (D p i).Feeder.toNat := by unfold nod; omega
 have h5 : 2 + p.Demands.length ≤ NN p := by unfold NN; omega
 unfold okA okArc useA
 simp only
 omega
theorem okA_feed (h : VP p) {t f : Nat} (ht : t < p.Caps.length) (hf : f < p.Parents.length) : okA p (feedA p t f) := by
 have h1 := h.par f hf
 have h2 := h.cl ht hf
 unfold okPar at h1
 have h3 := nod_lt (p := p) ht hf
 have h4 : 2 + p.Demands.length ≤ nod p t f := by unfold nod; omega
 have h5 : up p t f < NN p ∧ up p t f ≠ nod p t f := by
  unfold up
  by_cases a : 0 ≤ p.Parents.getD f 0
  ·rw [decide_eq_true a, cond_true]
   refine ⟨nod_lt ht (by omega), ?_⟩
   unfold nod
   omega
  ·rw [decide_eq_false a, cond_false]
   unfold NN
   omega
 have h6 : 0 ≤ lim p t f ∧ lim p t f ≤ 1099511627776 := by
  unfold lim
  split <;> omega
 unfold okA okArc feedA
 simp only
 omega
theorem Us_ok (h : VP p) {i : Nat} (hi : i < p.Demands.length) : ∀ t, t ≤ p.Caps.length → ∀ a ∈ Us p i t, okA p a
 | 0, _, a, ha => by simp [Us] at ha
 | t + 1, ht, a, ha => by
  simp only [Us] at ha
  rcases List.mem_append.1 ha with h1 | h1
  ·exact Us_ok h hi t (by omega) a h1
  ·cases hu : us p (D p i) t with
   | true => rw [hu, cond_true, List.mem_singleton] at h1; rw [h1]; exact okA_use h hi (by omega)
   | false => rw [hu] at h1; simp at h1
theorem Fs_ok (h : VP p) {t : Nat} (ht : t < p.Caps.length) : ∀ f, f ≤ p.Parents.length → ∀ a ∈ Fs p t f, okA p a
 | 0, _, a, ha => by simp [Fs] at ha
 | f + 1, hf, a, ha => by
  simp only [Fs] at ha
  rcases List.mem_append.1 ha with h1 | h1
  ·exact Fs_ok h ht f (by omega) a h1
  ·rw [List.mem_singleton] at h1; rw [h1]; exact okA_feed h ht (by omega)
theorem AllF_ok (h : VP p) : ∀ t, t ≤ p.Caps.length → ∀ a ∈ AllF p t, okA p a
 | 0, _, a, ha => by simp [AllF] at ha
 | t + 1, ht, a, ha => by
  simp only [AllF] at ha
  rcases List.mem_append.1 ha with h1 | h1
  ·exact AllF_ok h t (by omega) a h1
  ·exact Fs_ok h (by omega) _ (Nat.le_refl _) a h1
theorem Src_ok {e : Nat → Int} (he : ∀ i, i < p.Demands.length → 0 ≤ e i ∧ e i ≤ 1099511627776) : ∀ n, n ≤ p.Demands.length → ∀ a ∈ Src e n, okA p a
 | 0, _, a, ha => by simp [Src] at ha
 | n + 1, hn, a, ha => by
  simp only [Src] at ha
  rcases List.mem_append.1 ha with h1 | h1
  ·exact Src_ok he n (by omega) a h1
  ·rw [List.mem_singleton] at h1; rw [h1]; exact okA_src (by omega) (he n (by omega))
theorem AllU_ok (h : VP p) : ∀ n, n ≤ p.Demands.length → ∀ a ∈ AllU p n, okA p a
 | 0, _, a, ha => by simp [AllU] at ha
 | n + 1, hn, a, ha => by
  simp only [AllU] at ha
  rcases List.mem_append.1 ha with h1 | h1
  ·exact AllU_ok h n (by omega) a h1
  ·exact Us_ok h (by omega) _ (Nat.le_refl _) a h1
theorem RefD_ok (h : VP p) {e : Nat → Int} (he : ∀ i, i < p.Demands.length → 0 ≤ e i ∧ e i ≤ 1099511627776) : ∀ n, n ≤ p.Demands.length → ∀ a ∈ RefD p e n, okA p a
 | 0, _, a, ha => by simp [RefD] at ha
 | n + 1, hn, a, ha => by
  simp only [RefD] at ha
  rcases List.mem_append.1 ha with h1 | h1
  ·rcases List.mem_append.1 h1 with h1 | h1
   ·exact RefD_ok h he n (by omega) a h1
   ·rw [List.mem_singleton] at h1; rw [h1]; exact okA_src (by omega) (he n (by omega))
  ·exact Us_ok h (by omega) _ (Nat.le_refl _) a h1
theorem good_net (h : VP p) (F : Nat) (hF : 100000000000000000 ≤ F) (A : List SArc) (hl : A.length ≤ 1100) (hA : ∀ a ∈ A, okA p a) : GoodNet ⟨(NN p : Int), A⟩ (NN p) ∧ flow_valid F ⟨(NN p : Int), A⟩ 0 1 = some 0 ∧ chargenetref09_Ends F ⟨(NN p : Int), A⟩ 0 1 = some 0 := by
 have hn : NN p ≤ 256 := by have := h.nodes; unfold NN; omega
 have hn2 : 2 ≤ NN p := by unfold NN; omega
 obtain ⟨h1, h2⟩ := good_of F hF ⟨(NN p : Int), A⟩ (NN p) rfl hn2 hn (by show A.length ≤ 2048; omega) (fun j hj => by
  have : A.getD j dSArc ∈ A := mem_getD hj
  exact hA _ this)
 have h3 := h2 0 1 (by omega) (by omega) (by omega)
 refine ⟨h1, h3, ?_⟩
 obtain ⟨e, e1, e2, _⟩ := ends_eq F hF ⟨(NN p : Int), A⟩ 0 1
 rw [show ((0 : Nat) : Int) = 0 from rfl, show ((1 : Nat) : Int) = 1 from rfl] at h3
 rw [h3] at e1
 rw [e2, e1]
def sm (g : SArc → Int) : List SArc → Int
 | [] => 0
 | a :: l => g a + sm g l
theorem sm_append (g : SArc → Int) : ∀ (a b : List SArc), sm g (a ++ b) = sm g a + sm g b
 | [], b => by simp [sm]
 | x :: a, b => by simp only [List.cons_append, sm, sm_append g a b]; omega
theorem S_shift (g : Nat → Int) : ∀ n, S g (n + 1) = g 0 + S (fun i => g (i + 1)) n
 | 0 => by simp [S]
 | n + 1 => by
  rw [S_succ, S_shift g n, S_succ]
  omega
theorem S_sm (g : SArc → Int) : ∀ (A : List SArc), S (fun i => g (A.getD i dSArc)) A.length = sm g A
 | [] => rfl
 | a :: A => by
  rw [List.length_cons, S_shift]
  simp only [sm]
  rw [← S_sm g A]
  rfl
def cg (X : Nat → Bool) (a : SArc) : Int := bI (X a.From.toNat && !X a.To.toNat) a.Cap
theorem cap_sm (A : List SArc) (X : Nat → Bool) : cap A X = sm (cg X) A := by
 refine Eq.trans (S_congr fun i _ => ?_) (S_sm (cg X) A)
 unfold cg aF aT aC
 cases X (A.getD i dSArc).From.toNat <;> cases X (A.getD i dSArc).To.toNat <;> simp [bI]
def CX (p : SProblem) (X : Nat → Bool) : Int := sm (cg X) (AllU p p.Demands.length) + sm (cg X) (AllF p p.Caps.length)
theorem sm_Src (X : Nat → Bool) (h0 : X 0 = true) (e : Nat → Int) : ∀ n, sm (cg X) (Src e n) = S e n - S (fun i => bI (X (2 + i)) (e i)) n
 | 0 => rfl
 | n + 1 => by
  simp only [Src]
  rw [sm_append, sm_Src X h0 e n, S_succ, S_succ]
  have : sm (cg X) [srcA (e n) n] = e n - bI (X (2 + n)) (e n) := by
   simp only [sm, cg, srcA]
   rw [show ((0 : Int)).toNat = 0 from rfl, h0, Int.toNat_natCast]
   cases X (2 + n) <;> simp [bI]
  rw [this]
  omega
theorem sm_RefD (X : Nat → Bool) (e : Nat → Int) : ∀ n, sm (cg X) (RefD p e n) = sm (cg X) (Src e n) + sm (cg X) (AllU p n)
 | 0 => rfl
 | n + 1 => by
  simp only [RefD, Src, AllU]
  rw [sm_append, sm_append, sm_append, sm_append, sm_RefD X e n]
  omega
theorem cap_PA (X : Nat → Bool) (h0 : X 0 = true) (e : Nat → Int) : cap (PA p e) X = S e p.Demands.length - S (fun i => bI (X (2 + i)) (e i)) p.Demands.length + CX p X := by
 rw [cap_sm]
 unfold PA CX
 rw [sm_append, sm_append, sm_Src X h0]
 omega
theorem cap_RA (X : Nat → Bool) (e : Nat → Int) : cap (RA p e) X = cap (PA p e) X := by
 rw [cap_sm, cap_sm]
 unfold RA PA
 rw [sm_append, sm_append, sm_append, sm_RefD]
def Fit (p : SProblem) (e : Nat → Int) : Prop := ∀ X : Nat → Bool, X 0 = true → X 1 = false → S (fun i => bI (X (2 + i)) (e i)) p.Demands.length ≤ CX p X
theorem Fit.le {e e' : Nat → Int} (h : Fit p e) (hle : ∀ i, i < p.Demands.length → e' i ≤ e i) : Fit p e' := fun X h0 h1 => by
 refine Int.le_trans (S_le (fun i hi => ?_)) (h X h0 h1)
 cases X (2 + i)
 ·exact Int.le_refl _
 ·exact hle i hi
theorem sm_nonneg {g : SArc → Int} : ∀ {l : List SArc}, (∀ a ∈ l, 0 ≤ g a) → 0 ≤ sm g l
 | [], _ => Int.le_refl _
 | a :: l, h => by
  have h1 := h a (List.mem_cons_self ..)
  have h2 := sm_nonneg (l := l) (fun b hb => h b (List.mem_cons_of_mem _ hb))
  simp only [sm]
  omega
theorem CX_nonneg (h : VP p) (X : Nat → Bool) : 0 ≤ CX p X := by
 have key : ∀ a, okA p a → 0 ≤ cg X a := fun a ha => by
  unfold okA okArc at ha
  exact (bI_bd (M := a.Cap) ⟨by omega, Int.le_refl _⟩).1
 have h1 := sm_nonneg (l := AllU p p.Demands.length) (fun a ha => key a (AllU_ok h _ (Nat.le_refl _) a ha))
 have h2 := sm_nonneg (l := AllF p p.Caps.length) (fun a ha => key a (AllF_ok h _ (Nat.le_refl _) a ha))
 unfold CX
 omega
theorem Fit.zero (h : VP p) : Fit p (fun _ => 0) := fun X _ _ => by
 have h1 := CX_nonneg h X
 have : S (fun i => bI (X (2 + i)) 0) p.Demands.length = 0 := by
  have : (fun i => bI (X (2 + i)) 0) = fun _ => (0 : Int) := funext fun i => by cases X (2 + i) <;> rfl
  rw [this]
  exact S_zero _
 show S (fun i => bI (X (2 + i)) 0) p.Demands.length ≤ _
 rw [this]
 exact h1
theorem val_fit (h : VP p) {e : Nat → Int} (A : List SArc) (hA : Net A (NN p)) (hc : ∀ X : Nat → Bool, X 0 = true → cap A X = S e p.Demands.length - S (fun i => bI (X (2 + i)) (e i)) p.Demands.length + CX p X) {l : Nat → Int} {R : Nat → Bool} (hg : Great A (NN p) 0 1 l R) :
  out A l 0 = S e p.Demands.length ↔ Fit p e := by
 have h2 : 0 < NN p := by unfold NN; omega
 have hcap := hg.cap hA h2
 constructor
 ·intro he X h0 h1
  have h3 := val_le_cap hA hg.flow h2 h0 h1
  rw [hc X h0] at h3
  omega
 ·intro hf
  have h3 := hf R hg.least.src hg.snk
  rw [hc R hg.least.src] at hcap
  have h4 := val_le_cap (X := fun v => decide (v = 0)) hA hg.flow h2 (by simp) (by simp)
  rw [hc _ (by simp)] at h4
  have h5 : CX p (fun v => decide (v = 0)) = 0 := by
   have key : ∀ a : SArc, 2 ≤ a.From → cg (fun v => decide (v = 0)) a = 0 := fun a ha => by
    unfold cg
    rw [show (fun v : Nat => decide (v = 0)) a.From.toNat = false from decide_eq_false (by omega)]
    rfl
   have z : ∀ (l : List SArc), (∀ a ∈ l, 2 ≤ a.From) → sm (cg fun v => decide (v = 0)) l = 0 := by
    intro l
    induction l with
    | nil => intro _; rfl
    | cons a l ih =>
     intro hl
     simp only [sm]
     rw [key a (hl a (List.mem_cons_self ..)), ih (fun b hb => hl b (List.mem_cons_of_mem _ hb))]
     rfl
   have u1 : ∀ i t, ∀ a ∈ Us p i t, 2 ≤ a.From := by
    intro i t
    induction t with
    | zero => intro a ha; simp [Us] at ha
    | succ t ih =>
     intro a ha
     simp only [Us] at ha
     rcases List.mem_append.1 ha with h1 | h1
     ·exact ih a h1
     ·cases hu : us p (D p i) t with
      | true => rw [hu, cond_true, List.mem_singleton] at h1; rw [h1]; unfold useA; simp only; omega
      | false => rw [hu] at h1; simp at h1
   have u2 : ∀ n, ∀ a ∈ AllU p n, 2 ≤ a.From := by
    intro n
    induction n with
    | zero => intro a ha; simp [AllU] at ha
    | succ n ih =>
     intro a ha
     simp only [AllU] at ha
     rcases List.mem_append.1 ha with h1 | h1
     ·exact ih a h1
     ·exact u1 _ _ a h1
   have f1 : ∀ t f, ∀ a ∈ Fs p t f, 2 ≤ a.From := by
    intro t f
    induction f with
    | zero => intro a ha; simp [Fs] at ha
    | succ f ih =>
     intro a ha
     simp only [Fs] at ha
     rcases List.mem_append.1 ha with h1 | h1
     ·exact ih a h1
     ·rw [List.mem_singleton] at h1; rw [h1]; unfold feedA nod; simp only; omega
   have f2 : ∀ n, ∀ a ∈ AllF p n, 2 ≤ a.From := by
    intro n
    induction n with
    | zero => intro a ha; simp [AllF] at ha
    | succ n ih =>
     intro a ha
     simp only [AllF] at ha
     rcases List.mem_append.1 ha with h1 | h1
     ·exact ih a h1
     ·exact f1 _ _ a h1
   unfold CX
   rw [z _ (u2 _), z _ (f2 _)]
   rfl
  have h6 : S (fun i => bI (decide (2 + i = 0)) (e i)) p.Demands.length = 0 := by
   have : (fun i => bI (decide (2 + i = 0)) (e i)) = fun _ => (0 : Int) := funext fun i => by
    rw [decide_eq_false (by omega)]
    rfl
   rw [this]
   exact S_zero _
  omega
end
end Go.Proofs.Ytfefnffdocmlmaa.M
