/- What a reading of the arguments says, as cells of models. -/
import Derived.Test.YtoncfkdgddfnlaaEngM
import Derived.ChangeArms
import Derived.DataReads
namespace Go.Proofs.Ytoncfkdgddfnlaa.E
open Go Go.RowKit
set_option linter.unusedVariables false
section
variable {H : Type} {enc : TypeId × Value → H} {P : Program} {w : World}
abbrev ctx0 (w : World) : Ctx := ctx (env0 w) [] loc0 w
theorem ctx0_O (w : World) (b : Nat) : ¬ (ctx0 w).O b := by
 rintro (h | ⟨i, o, s, c, h, _⟩)
 ·exact h
 ·simp at h
def Rd (enc : TypeId × Value → H) (P : Program) (w : World) (t : TypeId) (k : Nat) {α : Type} (c : α → Nat → Cell) (ok : α → Prop) : Prop :=
 ∀ (fuel : Nat) (cs : List Value) (d : DataW H × List MemPlace), DataW.trod enc P w 0 (fun _ => true) true fuel t cs = some d →
  ∃ a : α, ok a ∧ cs.length = k ∧ ∀ j, j < k → ∃ y, cs[j]? = some y ∧ RepC (ctx0 w) false (c a j) y
theorem rd_int {t : TypeId} {k : IntKind} (ht : P.underlying t = some (.int k)) : Rd enc P w t 1 (cInt k) (fun n => (Lit.int k n).wf = true) := by
 intro fuel cs d h
 obtain ⟨n, rfl, _, hw⟩ := DataW.trod_int ht h
 exact ⟨n, hw, rfl, fun j hj => ⟨.int k n, by simp [show j = 0 by omega], rfl⟩⟩
theorem rd_bool {t : TypeId} (ht : P.underlying t = some .bool) : Rd enc P w t 1 cBool (fun _ => True) := by
 intro fuel cs d h
 obtain ⟨b, rfl, _⟩ := DataW.trod_bool ht h
 exact ⟨b, trivial, rfl, fun j hj => ⟨.bool b, by simp [show j = 0 by omega], rfl⟩⟩
theorem rd_str {t : TypeId} (ht : P.underlying t = some .string) : Rd enc P w t 1 cStr (fun s => s.size ≤ maxLen) := by
 intro fuel cs d h
 obtain ⟨s, rfl, _, hs⟩ := DataW.trod_string ht h
 exact ⟨s, hs, rfl, fun j hj => ⟨.string s, by simp [show j = 0 by omega], rfl⟩⟩
def okVec {α : Type} (ok : α → Prop) (l : List α) : Prop := l.length ≤ maxLen ∧ ∀ a ∈ l, ok a
theorem rd_slice {t e : TypeId} {k : Nat} {α : Type} {c : α → Nat → Cell} {ok : α → Prop} (d0 : α) (ht : P.underlying t = some (.slice e)) (hk : P.cellsOf e = k) (hr : Rd enc P w e k c ok) :
  Rd enc P w t 1 (cVec k c d0) (okVec ok) := by
 intro fuel cs d h
 rcases DataW.trod_slice ht h with ⟨rfl, _⟩ | ⟨a, len, cap, elems, rest, n, rfl, rfl, _, hb, hlc, hcm, hel, hcell, _⟩
 ·refine ⟨[], ⟨by simp, by simp⟩, rfl, fun j hj => ⟨.slice none 0 0, by simp [show j = 0 by omega], none, 0, rfl, Nat.le_refl _, fun h => absurd h (by simp)⟩⟩
 ·have key : ∀ i, i < len → ∃ x : α, ok x ∧ ∀ j, j < k → ∃ y, w.cell? (a.add (i * k) |>.add j) = some y ∧ RepC (ctx0 w) false (c x j) y := by
   intro i hi
   have h1 := hcell i hi
   rw [List.getElem?_eq_getElem (by omega), hk] at h1
   cases hq : w.cells? 0 (a.add (i * k)) k with
   | none => rw [hq] at h1; simp at h1
   | some cs' =>
    rw [hq] at h1
    simp only [Option.bind_some] at h1
    obtain ⟨x, hx, hl, hrep⟩ := hr _ _ _ h1
    obtain ⟨_, hl2, hc2⟩ := World.cells?_some hq
    refine ⟨x, hx, fun j hj => ?_⟩
    obtain ⟨y, hy, hrep⟩ := hrep j hj
    exact ⟨y, by rw [hc2 j hj]; exact hy, hrep⟩
  obtain ⟨f, hf⟩ : ∃ f : Nat → α, ∀ i, i < len → ok (f i) ∧ ∀ j, j < k → ∃ y, w.cell? (a.add (i * k) |>.add j) = some y ∧ RepC (ctx0 w) false (c (f i) j) y := by
   refine ⟨fun i => if h : i < len then (key i h).choose else d0, fun i hi => ?_⟩
   simp only [dif_pos hi]
   exact (key i hi).choose_spec
  have hlen : ((List.range len).map f).length = len := by simp
  refine ⟨(List.range len).map f, ⟨by simp; omega, ?_⟩, rfl, fun j hj => ⟨.slice (some a) len cap, by simp [show j = 0 by omega], ?_⟩⟩
  ·intro x hx
   simp only [List.mem_map, List.mem_range] at hx
   obtain ⟨i, hi, rfl⟩ := hx
   exact (hf i hi).1
  ·refine ⟨some a, cap, by rw [hlen], by rw [hlen]; exact hlc, fun hn hk0 => ?_⟩
   rw [hlen] at hn
   have hspot : a.spot = none := by
    obtain ⟨y, hy, _⟩ := (hf 0 hn).2 0 hk0
    simp only [Nat.zero_mul, Addr.add, if_true] at hy
    unfold World.cell? at hy
    split at hy
    ·split at hy
     ·cases hy
     ·rename_i hs; simpa using hs
    ·cases hy
   obtain ⟨ab, ao, as⟩ := a
   simp only at hspot
   subst hspot
   refine ⟨ab, ao, rfl, ctx0_O w ab, fun i hi j hj => ?_⟩
   rw [hlen] at hi
   obtain ⟨y, hy, hrep⟩ := (hf i hi).2 j hj
   refine ⟨y, ?_, ?_⟩
   ·have hadd : ∀ o m : Nat, (⟨ab, o, none⟩ : Addr).add m = ⟨ab, o + m, none⟩ := by
     intro o m
     unfold Addr.add
     by_cases hm : m = 0
     ·subst hm; simp
     ·simp [hm]
    rw [hadd, hadd] at hy
    exact hy
   ·have : gL c d0 ((List.range len).map f) i j = c (f i) j := by
     unfold gL
     rw [List.getD_eq_getElem?_getD, List.getElem?_map, List.getElem?_range hi]
     rfl
    rw [this]
    exact hrep
theorem rd_field {α : Type} {c : α → Nat → Cell} {ok : α → Prop} {u : TypeId} {k off n : Nat} {cs : List Value} {x : Option (DataW H × List MemPlace)} (hr : Rd enc P w u k c ok) (hk : P.cellsOf u = k)
  (h : DataW.trod enc P w 0 (fun _ => true) true n u ((cs.drop off).take (P.cellsOf u)) = x) (hx : x.isSome = true) :
  ∃ a, ok a ∧ ∀ j, j < k → ∃ y, cs[off + j]? = some y ∧ RepC (ctx0 w) false (c a j) y := by
 cases x with
 | none => cases hx
 | some d =>
  obtain ⟨a, ha, hl, hc⟩ := hr _ _ _ h
  refine ⟨a, ha, fun j hj => ?_⟩
  obtain ⟨y, hy, hrep⟩ := hc j hj
  refine ⟨y, ?_, hrep⟩
  rw [hk, List.getElem?_take, if_pos hj, List.getElem?_drop] at hy
  exact hy
theorem repC_lift {x : Ctx} {c : Cell} {v : Value} (h : RepC x false c v) : RepC x true c v := by
 cases c with
 | own id len => exact absurd h.1 (by simp)
 | ptr id j => exact absurd h.1 (by simp)
 | aptr id k i j => exact absurd h.1 (by simp)
 | sub id lo n k => exact absurd h.1 (by simp)
 | mp id => exact absurd h.1 (by simp)
 | fnp f id => exact absurd h.1 (by simp)
 | _ => exact h
theorem arg_agg {α : Type} {c : α → Nat → Cell} {ok : α → Prop} {t : TypeId} {k : Nat} {v : Value} {d : DataW H} {ps : List MemPlace} (hr : Rd enc P w t k c ok) (hv : ∃ cs, v = .agg cs) (h : DataW.Trod enc P w 0 (fun _ => true) true t v d ps) :
  ∃ a, ok a ∧ RepA (ctx0 w) (.a ((List.range k).map (c a))) v := by
 obtain ⟨fuel, hf⟩ := h
 obtain ⟨a, ha, hl, hc⟩ := hr _ _ _ hf
 obtain ⟨cs, rfl⟩ := hv
 refine ⟨a, ha, cs, rfl, ?_⟩
 simp only [Value.cells] at hl hc
 refine RepL.of_get (by simp [← hl]) (fun j c' u h1 h2 => ?_)
 simp only [List.getElem?_map] at h1
 by_cases hj : j < k
 ·rw [List.getElem?_range hj] at h1
  simp at h1
  subst h1
  obtain ⟨y, hy, hrep⟩ := hc j hj
  rw [hy] at h2
  cases h2
  exact repC_lift hrep
 ·rw [List.getElem?_eq_none (by simpa using hj)] at h1
  simp at h1
end
end Go.Proofs.Ytoncfkdgddfnlaa.E
