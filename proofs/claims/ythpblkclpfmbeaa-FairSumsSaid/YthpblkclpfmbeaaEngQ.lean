/- Parts of slices and of strings. -/
import Derived.Test.YthpblkclpfmbeaaEngP
import Derived.Laws.Slices
import Derived.Laws.Strings2
namespace Go.Proofs.Ythpblkclpfmbeaa.E
open Go Go.RowKit
set_option linter.unusedVariables false

def subL {α : Type} (l : List α) (lo hi : Nat) : List α := (l.drop lo).take (hi - lo)
theorem subL_len {α : Type} {l : List α} {lo hi : Nat} (h : hi ≤ l.length) : (subL l lo hi).length = hi - lo := by simp [subL]; omega

theorem addr_add (b o m : Nat) : (⟨b, o, none⟩ : Addr).add m = ⟨b, o + m, none⟩ := by
  unfold Addr.add
  by_cases hm : m = 0
  · subst hm; simp
  · simp [hm]

theorem rep_sub {x : Ctx} {α : Type} {c : α → Nat → Cell} {d0 : α} {l : List α} {k lo hi cap : Nat} {a : Option Addr} (h : RepC x true (.vec l.length k (gL c d0 l)) (.slice a l.length cap)) (h1 : lo ≤ hi) (h2 : hi ≤ l.length) :
    RepC x true (.vec (subL l lo hi).length k (gL c d0 (subL l lo hi))) (sliced a lo hi cap k) := by
  obtain ⟨a', cap', hv, hc, hp⟩ := h
  cases hv
  rw [subL_len h2]
  refine ⟨_, cap - lo, rfl, by omega, fun hn hk => ?_⟩
  obtain ⟨b, off, rfl, hO, hcell⟩ := hp (by omega) hk
  refine ⟨b, off + lo * k, ?_, hO, fun i hi' j hj => ?_⟩
  · rw [if_neg (by omega)]
    simp [addr_add]
  · obtain ⟨y, hy, hr⟩ := hcell (lo + i) (by omega) j hj
    refine ⟨y, ?_, ?_⟩
    · rw [show off + lo * k + i * k + j = off + (lo + i) * k + j by rw [Nat.add_mul]; omega]
      exact hy
    · have : gL c d0 (subL l lo hi) i j = gL c d0 l (lo + i) j := by
        unfold gL subL
        congr 1
        rw [List.getD_eq_getElem?_getD, List.getD_eq_getElem?_getD, List.getElem?_take, if_pos (by omega), List.getElem?_drop]
      rw [this]
      exact hr

section
variable {P : Program} {N : Fr} {o : Oper} {st : St} {x y z : Operand} {t : TypeId} {d : Nat} {ev : Operand → AV} {objs : List Ob} {α : Type} {c : α → Nat → Cell} {d0 : α} {l : List α} {e' k bytes : Nat} {kl kh : IntKind} {lo hi : Int}

theorem elem_of {P : Program} {t e' : TypeId} (h : P.underlying t = some (.slice e')) : P.underlying t = some (.slice (P.elem t)) := by simp [Program.elem, h]

theorem q_part (ho : ∃ lo' hi', o.op = .slice t x lo' hi' none) (hx : ev x = .c (.vec l.length k (gL c d0 l))) (ht : slB P t e' k bytes = true) {L H : Nat} (h1 : L ≤ H) (h2 : H ≤ l.length)
    (hrun : ∀ (a : Act) (w : World) (ad : Option Addr) (cap : Nat), (∀ q ∈ o.op.operands, ∀ kk n, ev q = .c (.int kk n) → a.eval q = .int kk n) → a.eval x = .slice ad l.length cap → l.length ≤ cap → (execOp a.eval o).run P w = .ok (.value (sliced ad L H cap k)) w) :
    QOp P o ev objs (.c (.vec (subL l L H).length k (gL c d0 (subL l L H)))) := by
  refine QOp.of_run fun e loc w a hr hh => ?_
  obtain ⟨lo', hi', ho⟩ := ho
  have g1 := hh x (by simp [ho, Op.operands]); rw [hx] at g1
  have g1' := g1
  obtain ⟨ad, cap, hv, hc, _⟩ := g1
  rw [hv] at g1'
  refine ⟨sliced ad L H cap k, hrun a w ad cap (fun q hq kk n hqe => ?_) hv hc, rep_sub g1' h1 h2⟩
  have := hh q hq
  rw [hqe] at this
  exact this

theorem q_slice_h (ho : o.op = .slice t x none (some y) none) (hx : ev x = .c (.vec l.length k (gL c d0 l))) (hy : ev y = .c (.int kh hi)) (ht : slB P t e' k bytes = true) (h1 : 0 ≤ hi) (h2 : hi ≤ (l.length : Int)) :
    QOp P o ev objs (.c (.vec (subL l 0 hi.toNat).length k (gL c d0 (subL l 0 hi.toNat)))) := by
  obtain ⟨inf, g1, g2, g3, g4⟩ := slB_out ht
  refine q_part ⟨_, _, ho⟩ hx ht (Nat.zero_le _) (by omega) fun a w ad cap hq hv hc => ?_
  have h3 := hq y (by simp [ho, Op.operands]) kh hi hy
  simp only [execOp, ho, Option.map_some, Option.map_none, hv, h3, run_sliceAt_slice w t _ _ _ _ (elem_of g1), run_slice_h w t ad l.length cap (elem_of g1) kh hi h1 (by omega), Sem.run_bind]
  have he : P.elem t = e' := by simp [Program.elem, g1]
  rw [he]
  simp [sizeOf, run_typeInfo w g2, g3, Result.andThen]

theorem q_slice_l (ho : o.op = .slice t x (some y) none none) (hx : ev x = .c (.vec l.length k (gL c d0 l))) (hy : ev y = .c (.int kl lo)) (ht : slB P t e' k bytes = true) (h1 : 0 ≤ lo) (h2 : lo ≤ (l.length : Int)) :
    QOp P o ev objs (.c (.vec (subL l lo.toNat l.length).length k (gL c d0 (subL l lo.toNat l.length)))) := by
  obtain ⟨inf, g1, g2, g3, g4⟩ := slB_out ht
  refine q_part ⟨_, _, ho⟩ hx ht (by omega) (Nat.le_refl _) fun a w ad cap hq hv hc => ?_
  have h3 := hq y (by simp [ho, Op.operands]) kl lo hy
  simp only [execOp, ho, Option.map_some, Option.map_none, hv, h3, run_sliceAt_slice w t _ _ _ _ (elem_of g1), run_slice_l w t ad l.length cap (elem_of g1) kl lo h1 (by omega), Sem.run_bind]
  have he : P.elem t = e' := by simp [Program.elem, g1]
  rw [he]
  simp [sizeOf, run_typeInfo w g2, g3, Result.andThen]

theorem q_slice_lh (ho : o.op = .slice t x (some y) (some z) none) (hx : ev x = .c (.vec l.length k (gL c d0 l))) (hy : ev y = .c (.int kl lo)) (hz : ev z = .c (.int kh hi)) (ht : slB P t e' k bytes = true) (h0 : 0 ≤ lo) (h1 : lo ≤ hi) (h2 : hi ≤ (l.length : Int)) :
    QOp P o ev objs (.c (.vec (subL l lo.toNat hi.toNat).length k (gL c d0 (subL l lo.toNat hi.toNat)))) := by
  obtain ⟨inf, g1, g2, g3, g4⟩ := slB_out ht
  refine q_part ⟨_, _, ho⟩ hx ht (by omega) (by omega) fun a w ad cap hq hv hc => ?_
  have h3 := hq y (by simp [ho, Op.operands]) kl lo hy
  have h4 := hq z (by simp [ho, Op.operands]) kh hi hz
  simp only [execOp, ho, Option.map_some, Option.map_none, hv, h3, h4, run_sliceAt_slice w t _ _ _ _ (elem_of g1), run_slice_lh w t ad l.length cap (elem_of g1) kl kh lo hi h0 h1 (by omega), Sem.run_bind]
  have he : P.elem t = e' := by simp [Program.elem, g1]
  rw [he]
  simp [sizeOf, run_typeInfo w g2, g3, Result.andThen]
end
end Go.Proofs.Ythpblkclpfmbeaa.E
