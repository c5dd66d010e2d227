/- Plain laws of chapter 9: Max and Cut of any network. -/
import Derived.Test.YtbepoingholchaaPlainE
namespace Go.Proofs.Ytbepoingholchaa.M
open Go Go.Proofs.Ytbepoingholchaa.E Go.Proofs.Ytbepoingholchaa.W
set_option linter.unusedVariables false
set_option linter.unusedSimpArgs false

theorem max_bad (F : Nat) (n : SNet) (s t e : Int) (h : flow_valid F n s t = some e) (he : e ≠ 0) : flow_Max F n s t = some (0, [], e) ∧ flow_Cut F n s t = some ([], e) := by
  unfold flow_Max flow_Cut
  rw [h]
  simp only [Option.bind_some]
  rw [decide_eq_false he]
  exact ⟨rfl, rfl⟩

theorem lf_eq {ll : List Int} {l : Nat → Int} {m : Nat} (h : ∀ j, j < m → ll.getD j 0 = l j) : ∀ j, j < m → l j = lf ll j := fun j hj => (h j hj).symm

/-- A network with a source and a sink is refused, or solved. -/
theorem cases_net (F : Nat) (hF : 100000000000000000 ≤ F) (n : SNet) (s t : Int) :
    (∃ e, e ≠ 0 ∧ flow_valid F n s t = some e ∧ chargenetref09_Ends F n s t = some e ∧ flow_Max F n s t = some (0, [], e) ∧ flow_Cut F n s t = some ([], e)) ∨
    (∃ (N s' t' : Nat) (R : Nat → Bool) (ll : List Int) (cl : List Bool), GoodNet n N ∧ s = (s' : Int) ∧ t = (t' : Int) ∧ s' < N ∧ t' < N ∧ s' ≠ t' ∧ flow_valid F n s t = some 0 ∧ chargenetref09_Ends F n s t = some 0 ∧
      flow_Max F n s t = some (out n.Arcs (lf ll) s', ll, 0) ∧ flow_Cut F n s t = some (cl, 0) ∧ Great n.Arcs N s' t' (lf ll) R ∧ ll.length = n.Arcs.length ∧ cl.length = N ∧ ∀ j, j < N → cl.getD j false = R j) := by
  obtain ⟨e, h1, h2, h3⟩ := ends_eq F hF n s t
  by_cases he : e = 0
  · subst he
    obtain ⟨N, s', t', hN, rfl, rfl, hs, ht, hst⟩ := h3 rfl
    obtain ⟨l, R, ll, cl, m1, m2, m3, m4, m5, m6, m7⟩ := max_cut F hF n N hN s' t' hs ht hst h1
    refine .inr ⟨N, s', t', R, ll, cl, hN, rfl, rfl, hs, ht, hst, h1, h2, ?_, m2, m3.congr (lf_eq m5), m4, m6, m7⟩
    rw [m1, out_congr (lf_eq m5)]
  · obtain ⟨m1, m2⟩ := max_bad F n s t e h1 he
    exact .inl ⟨e, he, h1, h2, m1, m2⟩

theorem Closed.ext {A : List SArc} {N : Nat} (hA : Net A N) {l : Nat → Int} {X Y : Nat → Bool} (h : ∀ v, v < N → X v = Y v) (hc : Closed A l X) : Closed A l Y := fun i hi => by
  rw [← h _ (hA.f i hi).2, ← h _ (hA.t i hi).2]; exact hc i hi
theorem cap_ext {A : List SArc} {N : Nat} (hA : Net A N) {X Y : Nat → Bool} (h : ∀ v, v < N → X v = Y v) : cap A X = cap A Y := by
  unfold cap
  exact S_congr fun i hi => by rw [← h _ (hA.f i hi).2, ← h _ (hA.t i hi).2]
theorem Least.ext {A : List SArc} {N s : Nat} (hA : Net A N) (hs : s < N) {l : Nat → Int} {X Y : Nat → Bool} (h : ∀ v, v < N → X v = Y v) (hc : Least A N l s X) : Least A N l s Y :=
  ⟨by rw [← h s hs]; exact hc.src, hc.cl.ext hA h, fun Z hZ hcZ v hv hY => hc.min Z hZ hcZ v hv (by rw [h v hv]; exact hY)⟩
theorem Great.ext {A : List SArc} {N s t : Nat} (hA : Net A N) (hs : s < N) (ht : t < N) {l : Nat → Int} {X Y : Nat → Bool} (h : ∀ v, v < N → X v = Y v) (hc : Great A N s t l X) : Great A N s t l Y :=
  ⟨hc.flow, hc.least.ext hA hs h, by rw [← h t ht]; exact hc.snk⟩
end Go.Proofs.Ytbepoingholchaa.M
