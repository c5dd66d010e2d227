/- The library's sort at int; structures compared; a slice compared to nil. -/
import Derived.Test.YtoncfkdgddfnlaaEngO
import Derived.Sort.Grow
import Derived.Sort.Row
import Derived.Laws.StructEq
import Derived.ChangeKeysEq
import Derived.Laws.Shifts
namespace Go.Proofs.Ytoncfkdgddfnlaa.E
open Go Go.RowKit
set_option linter.unusedVariables false
def eqCell : Cell → Cell → Option Bool
 | .int k m, .int k' n => if k = k' then some (decide (m = n)) else none
 | .bool a, .bool b => some (a == b)
 | .str a, .str b => some (sEq a b)
 | _, _ => none
def eqCells : List Cell → List Cell → Option Bool
 | [], [] => some true
 | a :: r, b :: s => match eqCell a b, eqCells r s with
  | some x, some y => some (x && y)
  | _, _ => none
 | _, _ => none
def plainFields (P : Program) : Nat → List Field → List Cell → Bool
 | _, [], [] => true
 | i, f :: r, c :: cs => !(f.name == "_") && Nat.beq f.offset i && P.plainKey f.type && (match P.underlying f.type, c with
  | some (.int k), .int k' _ => decide (k = k')
  | some .bool, .bool _ => true
  | some .string, .str _ => true
  | _, _ => false) && plainFields P (i + 1) r cs
 | _, _, _ => false
def plainFields1 (P : Program) : Nat → List Field → List Cell → Bool
 | _, [], cs => cs.isEmpty
 | i, f :: r, cs => !(f.name == "_") && Nat.beq f.offset i && (match P.underlying f.type with
  | some (.struct fs2) => (match P.info? f.type with
   | some inf => tyB P f.type true inf.size && !(P.stoodInHeld f.type) && Nat.ble inf.size cs.length && plainFields P 0 fs2.toList (cs.take inf.size) && plainFields1 P (i + inf.size) r (cs.drop inf.size)
   | none => false)
  | _ => match cs with
   | c :: cs' => plainFields P i [f] [c] && plainFields1 P (i + 1) r cs'
   | [] => false)
def eqTypeB (P : Program) (t : TypeId) (kinds : List Cell) : Bool :=
 (match P.underlying t with | some (.struct fs) => plainFields1 P 0 fs.toList kinds | _ => false) && !(P.stoodInHeld t) && !(P.eqGuardType P.depth t)
def Cell.blank : Cell → Cell
 | .int k _ => .int k 0
 | .bool _ => .bool false
 | .str _ => .str ByteArray.empty
 | c => c
section
variable {P : Program} {N : Fr} {o : Oper} {st : St} {x y : Operand} {t : TypeId} {d : Nat} {ev : Operand → AV} {objs : List Ob}
theorem eq_one {c : Ctx} {w : World} {dd : Nat} {ft : TypeId} {c1 c2 : Cell} {v1 v2 : Value} {q : Bool} (hk : (match P.underlying ft, c1 with
  | some (.int k), .int k' _ => decide (k = k')
  | some .bool, .bool _ => true
  | some .string, .str _ => true
  | _, _ => false) = true) (g1 : RepC c true c1 v1) (g2 : RepC c true c2 v2) (hq : eqCell c1 c2 = some q) : (Op.equalIn (dd + 1) ft v1 v2).run P w = .ok q w := by
 cases c1 <;> cases c2 <;> simp only [eqCell] at hq <;> try cases hq
 ·split at hq
  ·rename_i k m k' n hkk
   subst hkk
   cases hq
   have g1' : v1 = .int k m := g1
   have g2' : v2 = .int k n := g2
   subst g1'; subst g2'
   cases hu : P.underlying ft with
   | none => rw [hu] at hk; cases hk
   | some u =>
    rw [hu] at hk
    cases u <;> simp at hk
    rename_i k3
    rw [run_equalIn_int w dd ft k k3 m n hu]
    congr 1
  ·cases hq
 ·have g1' : v1 = .bool _ := g1
  have g2' : v2 = .bool _ := g2
  subst g1'; subst g2'
  cases hu : P.underlying ft with
  | none => rw [hu] at hk; cases hk
  | some u =>
   rw [hu] at hk
   cases u <;> simp at hk
   exact run_equalIn_bool' w dd ft _ _ hu
 ·have g1' : v1 = .string _ := g1
  have g2' : v2 = .string _ := g2
  subst g1'; subst g2'
  cases hu : P.underlying ft with
  | none => rw [hu] at hk; cases hk
  | some u =>
   rw [hu] at hk
   cases u <;> simp at hk
   rw [run_equalIn_string w dd ft _ _ hu]
   simp [sEq, ByteArray.toList_eq]
theorem run_eqFields {c : Ctx} {w : World} {dd : Nat} {xs ys : Array Value} : ∀ (fs : List Field) (i : Nat) (cs1 cs2 : List Cell) (b : Bool), plainFields P i fs cs1 = true → RepL c true cs1 (xs.toList.drop i) → RepL c true cs2 (ys.toList.drop i) →
  eqCells cs1 cs2 = some b → (Op.eqFields (dd + 1) xs ys fs).run P w = .ok b w
 | [], i, cs1, cs2, b, hp, h1, h2, he => by
  cases cs1 with
  | cons _ _ => simp [plainFields] at hp
  | nil =>
   cases cs2 with
   | cons _ _ => simp [eqCells] at he
   | nil => simp only [eqCells, Option.some.injEq] at he; subst he; rfl
 | f :: fs, i, cs1, cs2, b, hp, h1, h2, he => by
  cases cs1 with
  | nil => simp [plainFields] at hp
  | cons c1 cs1 =>
   cases cs2 with
   | nil => simp [eqCells] at he
   | cons c2 cs2 =>
    simp only [plainFields, Bool.and_eq_true, Bool.not_eq_true'] at hp
    obtain ⟨⟨⟨⟨hn, ho⟩, hpk⟩, hk⟩, hr⟩ := hp
    have ho := Nat.eq_of_beq_eq_true ho
    have hname : f.name ≠ "_" := by simpa using hn
    cases hx : xs.toList.drop i with
    | nil => rw [hx] at h1; exact h1.elim
    | cons v1 vs1 =>
     cases hy : ys.toList.drop i with
     | nil => rw [hy] at h2; exact h2.elim
     | cons v2 vs2 =>
      rw [hx] at h1
      rw [hy] at h2
      have hx1 : xs[i]? = some v1 := by
       have := congrArg List.head? hx
       simpa [List.head?_drop] using this
      have hy1 : ys[i]? = some v2 := by
       have := congrArg List.head? hy
       simpa [List.head?_drop] using this
      have hx2 : xs.toList.drop (i + 1) = vs1 := by rw [← List.tail_drop, hx]; rfl
      have hy2 : ys.toList.drop (i + 1) = vs2 := by rw [← List.tail_drop, hy]; rfl
      simp only [eqCells] at he
      cases hq : eqCell c1 c2 with
      | none => rw [hq] at he; cases he
      | some q =>
       cases hq2 : eqCells cs1 cs2 with
       | none => rw [hq, hq2] at he; cases he
       | some q2 =>
        rw [hq, hq2] at he
        simp only [Option.some.injEq] at he
        subst he
        have ih := run_eqFields (dd := dd) (w := w) fs (i + 1) cs1 cs2 q2 hr (by rw [hx2]; exact h1.2) (by rw [hy2]; exact h2.2) hq2
        have hone : (Op.equalIn (dd + 1) f.type v1 v2).run P w = .ok q w := eq_one hk h1.1 h2.1 hq
        simp only [Op.eqFields, if_pos hname, Sem.run_bind, ho, run_part_plain w hpk hx1, run_part_plain w hpk hy1, Result.andThen_ok, hone]
        cases q with
        | true => simpa using ih
        | false => simp [Sem.run_pure]
theorem eqCells_take : ∀ (n : Nat) (l1 l2 : List Cell) (b : Bool), eqCells l1 l2 = some b → ∃ p q, eqCells (l1.take n) (l2.take n) = some p ∧ eqCells (l1.drop n) (l2.drop n) = some q ∧ b = (p && q)
 | 0, l1, l2, b, h => ⟨true, b, by simp [eqCells], by simpa using h, by simp⟩
 | n + 1, [], [], b, h => ⟨true, b, by simp [eqCells], by simpa using h, by simp⟩
 | n + 1, [], c :: l2, b, h => by simp [eqCells] at h
 | n + 1, c :: l1, [], b, h => by simp [eqCells] at h
 | n + 1, c1 :: l1, c2 :: l2, b, h => by
  simp only [eqCells] at h
  cases hq : eqCell c1 c2 with
  | none => rw [hq] at h; cases h
  | some q =>
   cases hq2 : eqCells l1 l2 with
   | none => rw [hq, hq2] at h; cases h
   | some q2 =>
    rw [hq, hq2] at h
    simp only [Option.some.injEq] at h
    obtain ⟨p, r, h1, h2, h3⟩ := eqCells_take n l1 l2 q2 hq2
    refine ⟨q && p, r, ?_, by simpa using h2, ?_⟩
    ·simp only [List.take_succ_cons, eqCells, hq, h1]
    ·rw [← h, h3, Bool.and_assoc]
theorem eqCells_len : ∀ (l1 l2 : List Cell) (b : Bool), eqCells l1 l2 = some b → l1.length = l2.length
 | [], [], _, _ => rfl
 | [], _ :: _, _, h => by simp [eqCells] at h
 | _ :: _, [], _, h => by simp [eqCells] at h
 | c1 :: l1, c2 :: l2, b, h => by
  simp only [eqCells] at h
  cases hq : eqCell c1 c2 with
  | none => rw [hq] at h; cases h
  | some q =>
   cases hq2 : eqCells l1 l2 with
   | none => rw [hq, hq2] at h; cases h
   | some q2 => simp [eqCells_len l1 l2 q2 hq2]
theorem run_eqFields1 {c : Ctx} {w : World} {dd : Nat} {xs ys : Array Value} : ∀ (fs : List Field) (i : Nat) (cs1 cs2 : List Cell) (b : Bool), plainFields1 P i fs cs1 = true → RepL c true cs1 (xs.toList.drop i) → RepL c true cs2 (ys.toList.drop i) →
  eqCells cs1 cs2 = some b → (Op.eqFields (dd + 2) xs ys fs).run P w = .ok b w
 | [], i, cs1, cs2, b, hp, h1, h2, he => by
  simp only [plainFields1, List.isEmpty_iff] at hp
  subst hp
  cases cs2 with
  | cons _ _ => simp [eqCells] at he
  | nil => simp only [eqCells, Option.some.injEq] at he; subst he; rfl
 | f :: fs, i, cs1, cs2, b, hp, h1, h2, he => by
  simp only [plainFields1, Bool.and_eq_true, Bool.not_eq_true'] at hp
  obtain ⟨⟨hn, ho⟩, hm⟩ := hp
  have ho := Nat.eq_of_beq_eq_true ho
  have hname : f.name ≠ "_" := by simpa using hn
  have plain : (match (generalizing := false) cs1 with
   | c :: cs' => plainFields P i [f] [c] && plainFields1 P (i + 1) fs cs'
   | [] => false) = true → (Op.eqFields (dd + 2) xs ys (f :: fs)).run P w = .ok b w := by
   intro hm
   cases cs1 with
   | nil => cases hm
   | cons c1 cs1 =>
    cases cs2 with
    | nil => simp [eqCells] at he
    | cons c2 cs2 =>
     simp only [Bool.and_eq_true, plainFields] at hm
     obtain ⟨⟨⟨⟨_, hpk⟩, hk⟩, _⟩, hr⟩ := hm
     cases hx : xs.toList.drop i with
     | nil => rw [hx] at h1; exact h1.elim
     | cons v1 vs1 =>
      cases hy : ys.toList.drop i with
      | nil => rw [hy] at h2; exact h2.elim
      | cons v2 vs2 =>
       rw [hx] at h1
       rw [hy] at h2
       have hx1 : xs[i]? = some v1 := by
        have := congrArg List.head? hx
        simpa [List.head?_drop] using this
       have hy1 : ys[i]? = some v2 := by
        have := congrArg List.head? hy
        simpa [List.head?_drop] using this
       have hx2 : xs.toList.drop (i + 1) = vs1 := by rw [← List.tail_drop, hx]; rfl
       have hy2 : ys.toList.drop (i + 1) = vs2 := by rw [← List.tail_drop, hy]; rfl
       simp only [eqCells] at he
       cases hq : eqCell c1 c2 with
       | none => rw [hq] at he; cases he
       | some q =>
        cases hq2 : eqCells cs1 cs2 with
        | none => rw [hq, hq2] at he; cases he
        | some q2 =>
         rw [hq, hq2] at he
         simp only [Option.some.injEq] at he
         subst he
         have ih := run_eqFields1 (dd := dd) (w := w) fs (i + 1) cs1 cs2 q2 hr (by rw [hx2]; exact h1.2) (by rw [hy2]; exact h2.2) hq2
         have hone : (Op.equalIn (dd + 2) f.type v1 v2).run P w = .ok q w := eq_one hk h1.1 h2.1 hq
         simp only [Op.eqFields, if_pos hname, Sem.run_bind, ho, run_part_plain w hpk hx1, run_part_plain w hpk hy1, Result.andThen_ok, hone]
         cases q with
         | true => simpa using ih
         | false => simp [Sem.run_pure]
  cases hu : P.underlying f.type with
  | none => rw [hu] at hm; exact plain hm
  | some u =>
   rw [hu] at hm
   cases u with
   | struct fs2 =>
    simp only at hm
    cases hi : P.info? f.type with
    | none => rw [hi] at hm; cases hm
    | some inf =>
     rw [hi] at hm
     simp only [Bool.and_eq_true, Bool.not_eq_true'] at hm
     obtain ⟨⟨⟨⟨hty, hst⟩, hle⟩, hpf⟩, hr⟩ := hm
     have hle := Nat.le_of_ble_eq_true hle
     obtain ⟨p, q, he1, he2, rfl⟩ := eqCells_take inf.size cs1 cs2 b he
     have hlen1 := h1.length
     have hlen2 := h2.length
     have hlen := eqCells_len _ _ _ he
     have part_row : ∀ zs : Array Value, (part f.type zs i).run P w = .ok (.agg (zs.extract i (i + inf.size))) w := by
      intro zs
      simp [part, run_isAgg hty, sizeOf, run_typeInfo w hi, Result.andThen]
     have hext : ∀ zs : Array Value, (zs.extract i (i + inf.size)).toList.drop 0 = (zs.toList.drop i).take inf.size := by
      intro zs
      simp [List.drop_take, List.extract_eq_take_drop]
     have hfo : P.fieldsOf f.type = fs2 := by simp [Program.fieldsOf, hu]
     have hin : (Op.equalIn (dd + 2) f.type (.agg (xs.extract i (i + inf.size))) (.agg (ys.extract i (i + inf.size)))).run P w = .ok p w := by
      rw [run_equalIn_struct w (dd + 1) f.type _ _ (by rw [hfo]; exact hu) hst, hfo]
      exact run_eqFields (c := c) (dd := dd) fs2.toList 0 (cs1.take inf.size) (cs2.take inf.size) p hpf (by rw [hext]; exact RepL.take h1 _) (by rw [hext]; exact RepL.take h2 _) he1
     have ih := run_eqFields1 (dd := dd) (w := w) fs (i + inf.size) (cs1.drop inf.size) (cs2.drop inf.size) q hr (by rw [← List.drop_drop]; exact RepL.drop h1 _) (by rw [← List.drop_drop]; exact RepL.drop h2 _) he2
     simp only [Op.eqFields, if_pos hname, Sem.run_bind, ho, part_row, Result.andThen_ok, hin]
     cases p with
     | true => simpa using ih
     | false => simp [Sem.run_pure]
   | _ => exact plain hm
theorem q_eqAgg {l1 l2 : List Cell} {b : Bool} {op : BinOp} {t2 : TypeId} {neg : Bool} (ho : o.op = .binOp op t x y t2) (hop : (op, neg) = (.eql, false) ∨ (op, neg) = (.neq, true)) (hx : ev x = .a l1) (hy : ev y = .a l2)
  (ht : eqTypeB P t (l1.map Cell.blank) = true) (he : eqCells l1 l2 = some b) : QOp P o ev objs (.c (.bool (xor neg b))) := by
 refine QOp.of_run fun e loc w a hr h => ?_
 have h1 := h x (by simp [ho, Op.operands]); rw [hx] at h1
 have h2 := h y (by simp [ho, Op.operands]); rw [hy] at h2
 obtain ⟨xs, hxv, hL1⟩ := h1
 obtain ⟨ys, hyv, hL2⟩ := h2
 simp only [eqTypeB, Bool.and_eq_true, Bool.not_eq_true'] at ht
 obtain ⟨⟨hpf, hst⟩, hgd⟩ := ht
 have hblank : ∀ (fs : List Field) (i : Nat) (l : List Cell), plainFields P i fs (l.map Cell.blank) = plainFields P i fs l := by
  intro fs
  induction fs with
  | nil => intro i l; cases l <;> rfl
  | cons f fs ih =>
   intro i l
   cases l with
   | nil => rfl
   | cons c l =>
    simp only [List.map_cons, plainFields, ih]
    cases P.underlying f.type with
    | none => cases c <;> rfl
    | some u => cases u <;> cases c <;> rfl
 have hblank1 : ∀ (fs : List Field) (i : Nat) (l : List Cell), plainFields1 P i fs (l.map Cell.blank) = plainFields1 P i fs l := by
  intro fs
  induction fs with
  | nil => intro i l; cases l <;> rfl
  | cons f fs ih =>
   intro i l
   have plain : (match (generalizing := false) l.map Cell.blank with
    | c :: cs' => plainFields P i [f] [c] && plainFields1 P (i + 1) fs cs'
    | [] => false) = (match (generalizing := false) l with
    | c :: cs' => plainFields P i [f] [c] && plainFields1 P (i + 1) fs cs'
    | [] => false) := by
    cases l with
    | nil => rfl
    | cons c l => simp only [List.map_cons, ih]; rw [← hblank [f] i [c]]; rfl
   simp only [plainFields1]
   cases P.underlying f.type with
   | none => simp only [plain]
   | some u =>
    cases u with
    | struct fs2 =>
     simp only
     cases P.info? f.type with
     | none => rfl
     | some inf => simp only [List.length_map, ← List.map_take, ← List.map_drop, hblank, ih]
    | _ => simp only [plain]
 cases hu : P.underlying t with
 | none => rw [hu] at hpf; cases hpf
 | some u =>
  cases u with
  | struct fs =>
   rw [hu] at hpf
   simp only at hpf
   rw [hblank1] at hpf
   have hfo : P.fieldsOf t = fs := by simp [Program.fieldsOf, hu]
   have hrun : (Op.equalIn 10000 t (.agg xs) (.agg ys)).run P w = .ok b w := by
    rw [run_equalIn_struct w 9999 t xs ys (by rw [hfo]; exact hu) hst, hfo]
    exact run_eqFields1 (c := ctx e objs loc w) (dd := 9997) fs.toList 0 l1 l2 b hpf (by simpa using hL1) (by simpa using hL2) he
   refine ⟨.bool (xor neg b), ?_, rfl⟩
   rcases hop with hop | hop
   ·cases hop
    simp only [execOp, ho, hxv, hyv, Sem.run_bind, run_eqGuard_agg w _ t x y xs ys hgd, run_eql_struct, hrun, Result.andThen_ok, Sem.run_pure]
    simp
   ·cases hop
    simp only [execOp, ho, hxv, hyv, Sem.run_bind, run_eqGuard_agg w _ t x y xs ys hgd, run_neq_struct, hrun, Result.andThen_ok, Sem.run_pure]
    simp
  | _ => rw [hu] at hpf; cases hpf
end
end Go.Proofs.Ytoncfkdgddfnlaa.E
