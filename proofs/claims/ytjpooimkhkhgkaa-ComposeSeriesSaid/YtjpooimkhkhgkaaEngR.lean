/- Parts of arrays of one's own; copying into them; clearing them. -/
import Derived.Test.YtjpooimkhkhgkaaEngQ
import Derived.Laws.CopyRow
import Derived.Laws.Entries
namespace Go.Proofs.Ytjpooimkhkhgkaa.E
open Go Go.RowKit
set_option linter.unusedVariables false

section
variable {P : Program} {N : Fr} {o : Oper} {st : St} {x y z ix : Operand} {t z' : TypeId} {d : Nat} {ev : Operand → AV} {objs : List Ob} {α : Type} {c : α → Nat → Cell} {d0 : α} {l : List α} {e' k bytes id n T : Nat} {kl kh : IntKind} {lo hi : Int} {get : Nat → Nat → Cell}

/-! ### Arrays as values -/
def arrB (P : Program) (t e n s : Nat) : Bool :=
  match P.underlying t with
  | some (.array n' e') => Nat.beq n' n && Nat.beq e' e && (match P.info? e with
    | some i => Nat.beq i.size s
    | none => false)
  | _ => false

theorem arrB_out {P : Program} {t e n s : Nat} (h : arrB P t e n s = true) : P.underlying t = some (.array n e) ∧ ∃ i, P.info? e = some i ∧ i.size = s := by
  unfold arrB at h
  split at h
  · rename_i n' e' hu
    simp only [Bool.and_eq_true] at h
    obtain ⟨⟨h1, h2⟩, h3⟩ := h
    have h1 := Nat.eq_of_beq_eq_true h1
    have h2 := Nat.eq_of_beq_eq_true h2
    subst h1; subst h2
    refine ⟨hu, ?_⟩
    split at h3
    · rename_i i hi
      exact ⟨i, hi, Nat.eq_of_beq_eq_true h3⟩
    · cases h3
  · cases h

theorem q_buildArr {ps : List (Nat × AV)} {parts : Array (Nat × Operand)} {cs : List Cell} {zz : Value} {nn s : Nat} (ho : o.op = .build t parts) (hps : parts.toList.map (fun p => (p.1, ev p.2)) = ps)
    (har : arrB P t e' nn s = true) (hz : (P.info? t).map (·.zero) = some (some zz)) (hb : forceL (zz.cells.toList.map cellOf) (fillF (fun i => some (i * s, s)) ps) = some cs) : QOp P o ev objs (.a cs) := by
  rw [forceL_eq, fillF_eq] at hb
  refine q_build ho hps ?_
  obtain ⟨h1, i, h2, h3⟩ := arrB_out har
  unfold builtC
  cases hi : P.info? t with
  | none => rw [hi] at hz; cases hz
  | some it =>
    rw [hi] at hz
    have hzz : it.zero = some zz := by simpa using hz
    simp only [h1, h2, hzz, h3]
    exact hb

theorem q_index_agg {nn : Nat} {i : Int} (ho : o.op = .index t x y) (hx : ev x = .a (l.map fun a => c a 0)) (hy : ev y = .c (.int kl i)) (har : arrB P t e' nn 1 = true) (hty : tyB P e' false 1 = true) (hl : l.length = nn)
    (h0 : 0 ≤ i) (h1 : i < (l.length : Int)) : QOp P o ev objs (.c (c (l.getD i.toNat d0) 0)) := by
  refine QOp.of_run fun e loc w a hr hh => ?_
  have h2 := hh x (by simp [ho, Op.operands]); rw [hx] at h2
  have h3 := hh y (by simp [ho, Op.operands]); rw [hy] at h3
  have h3' : a.eval y = .int kl i := h3
  obtain ⟨vs, hv, hL⟩ := h2
  obtain ⟨g1, inf, g2, g3⟩ := arrB_out har
  have hi : i.toNat < l.length := by omega
  obtain ⟨u, hu, hrep⟩ := hL.get i.toNat (c (l.getD i.toNat d0) 0) (by
    rw [List.getElem?_map, List.getD_eq_getElem?_getD, List.getElem?_eq_getElem hi]; rfl)
  refine ⟨u, ?_, hrep⟩
  have hu' : vs[i.toNat]? = some u := by simpa using hu
  have hc : 0 ≤ i ∧ i < (nn : Int) := by omega
  simp only [execOp, ho, Sem.run_bind]
  rw [hv, h3']
  simp [Instr.index, asIntOf, run_underlying g1, hc, part, run_isAgg hty, sizeOf, run_typeInfo w g2, g3, hu', Result.andThen]

theorem q_indexAddr_ptr {nn s j : Nat} {kk : IntKind} {i : Int} (ho : o.op = .indexAddr t x ix) (hx : ev x = .c (.ptr id j)) (hix : ev ix = .c (.int kk i)) (har : arrB P t e' nn s = true) (h0 : 0 ≤ i) (h1 : i < (nn : Int)) :
    QOp P o ev objs (.c (.ptr id (j + i.toNat * s))) := by
  refine QOp.of_run fun e loc w a hr hh => ?_
  have h1' := hh x (by simp [ho, Op.operands]); rw [hx] at h1'
  have h2 := hh ix (by simp [ho, Op.operands]); rw [hix] at h2
  have h2' : a.eval ix = .int kk i := h2
  obtain ⟨_, hB, b, cc, hl, hv⟩ := h1'
  obtain ⟨g1, inf, g2, g3⟩ := arrB_out har
  have hal : P.arrayLen t = nn := by simp [Program.arrayLen, g1]
  have hel : P.elem t = e' := by simp [Program.elem, g1]
  have hrun := run_indexAt_array (P := P) (w := w) t ⟨b, j, none⟩ kk i (by rw [hal, hel]; exact g1)
  refine ⟨.pointer (some ⟨b, j + i.toNat * s, none⟩), ?_, rfl, hB, b, cc, hl, rfl⟩
  simp only [execOp, ho, hv, h2', Sem.run_bind]
  rw [hrun, hal, hel]
  have hc : 0 ≤ i ∧ i < (nn : Int) := ⟨h0, h1⟩
  simp [hc, sizeOf, run_typeInfo w g2, g3, Result.andThen, addr_add]

end
end Go.Proofs.Ytjpooimkhkhgkaa.E
