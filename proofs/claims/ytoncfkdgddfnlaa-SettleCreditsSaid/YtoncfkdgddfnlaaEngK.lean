/- Small things that the written walks lean on. -/
import Derived.Test.YtoncfkdgddfnlaaEngJ
import Derived.Scope
namespace Go.Proofs.Ytoncfkdgddfnlaa.E
open Go Go.RowKit
set_option linter.unusedVariables false
theorem gT {b : Bool} (h : b = true) : AV.c (.bool b) = .c (.bool true) := by rw [h]
theorem gF {b : Bool} (h : b = false) : AV.c (.bool b) = .c (.bool false) := by rw [h]
theorem toNat_lt {i : Int} {n : Nat} (h : 0 ≤ i ∧ i < (n : Int)) : i.toNat < n := by omega
theorem oneInt {k : IntKind} {n : Nat} : ∀ (a : Int) (j : Nat), j < n → (cInt k a j).one = true := fun _ _ _ => rfl
section
variable {P : Program} {N : Fr} {o : Oper} {st : St} {x y : Operand} {t : TypeId} {d : Nat} {ev : Operand → AV} {objs : List Ob}
theorem q_pick_t {c : Operand} {b : Bool} {v : AV} (ho : o.op = .pick c x y) (hc : ev c = .c (.bool b)) (hb : b = true) (hv : ev x = v) : QOp P o ev objs v := by
 subst hb
 refine QOp.of_run fun e loc w a hr h => ?_
 have h1 := h c (by simp [ho, Op.operands]); rw [hc] at h1
 have h1' : a.eval c = .bool true := h1
 have h2 := h x (by simp [ho, Op.operands]); rw [hv] at h2
 exact ⟨a.eval x, by simp [execOp, ho, h1', asBool], h2⟩
theorem q_pick_f {c : Operand} {b : Bool} {v : AV} (ho : o.op = .pick c x y) (hc : ev c = .c (.bool b)) (hb : b = false) (hv : ev y = v) : QOp P o ev objs v := by
 subst hb
 refine QOp.of_run fun e loc w a hr h => ?_
 have h1 := h c (by simp [ho, Op.operands]); rw [hc] at h1
 have h1' : a.eval c = .bool false := h1
 have h2 := h y (by simp [ho, Op.operands]); rw [hv] at h2
 exact ⟨a.eval y, by simp [execOp, ho, h1', asBool], h2⟩
def placesP (P : Program) (t : TypeId) : Option (List (Nat × Nat) × Value) :=
 match P.info? t, P.underlying t with
 | some it, some (.struct fields) => match it.zero, fields.toList.mapM (fun f => (P.info? f.type).map fun i => (f.offset, i.size)) with
  | some z, some places => some (places, z)
  | _, _ => none
 | _, _ => none
def forceL {α β : Type} : List α → (List α → β) → β
 | [], k => k []
 | c :: cs, k => forceL cs (fun r => k (c :: r))
theorem forceL_eq {α β : Type} : ∀ (l : List α) (k : List α → β), forceL l k = k l
 | [], k => rfl
 | c :: cs, k => by simp only [forceL]; exact forceL_eq cs _
def fillF (pl : Nat → Option (Nat × Nat)) : List (Nat × AV) → List Cell → Option (List Cell)
 | [], cells => some cells
 | (i, v) :: r, cells => match pl i with
  | none => none
  | some (off, size) => match Nat.beq v.cells.length size && Nat.ble (off + size) cells.length && !v.cells.isEmpty && v.cells.all Cell.one with
   | true => forceL (splice cells off v.cells) (fun c => fillF pl r c)
   | false => none
theorem fillF_eq (pl : Nat → Option (Nat × Nat)) : ∀ (ps : List (Nat × AV)) (cells : List Cell), fillF pl ps cells = fillC pl cells ps
 | [], cells => rfl
 | (i, v) :: r, cells => by
  simp only [fillF, fillC]
  cases hp : pl i with
  | none => simp only
  | some q =>
   obtain ⟨off, size⟩ := q
   simp only
   cases hq : (Nat.beq v.cells.length size && Nat.ble (off + size) cells.length && !v.cells.isEmpty && v.cells.all Cell.one) with
   | true => simp only; rw [forceL_eq]; exact fillF_eq pl r _
   | false => simp only
theorem q_build2 {ps : List (Nat × AV)} {parts : Array (Nat × Operand)} {cs : List Cell} {pl : List (Nat × Nat)} {z : Value} (ho : o.op = .build t parts) (hps : parts.toList.map (fun p => (p.1, ev p.2)) = ps)
  (hpl : placesP P t = some (pl, z)) (hb : forceL (z.cells.toList.map cellOf) (fillF (pl[·]?) ps) = some cs) : QOp P o ev objs (.a cs) := by
 rw [forceL_eq, fillF_eq] at hb
 refine q_build ho hps ?_
 unfold placesP at hpl
 split at hpl
 ·rename_i it fields h1 h2
  split at hpl
  ·rename_i z' places h3 h4
   cases hpl
   unfold builtC
   simp only [h1, h2, h3, h4]
   exact hb
  ·cases hpl
 ·cases hpl
theorem q_minmax {k : IntKind} {m n : Int} {v : Cell} {b : Builtin} {tys : Array TypeId} (ho : o.op = .call { callee := .builtin b, args := #[x, y], argTypes := tys }) (hx : ev x = .c (.int k m)) (hy : ev y = .c (.int k n))
  (h : ∀ w : World, ∃ u, (builtin b tys o.type #[false, false] #[.int k m, .int k n]).run P w = .ok (.value u) w ∧ ∀ c : Ctx, RepC c true v u)
  (hcs : ∀ cs cs' : Array Bool, builtin b tys o.type cs #[.int k m, .int k n] = builtin b tys o.type cs' #[.int k m, .int k n]) : QOp P o ev objs (.c v) := by
 refine QOp.of_run fun e loc w a hr hh => ?_
 have h1 := hh x (by simp [ho, Op.operands, Call.operands]); rw [hx] at h1
 have h2 := hh y (by simp [ho, Op.operands, Call.operands]); rw [hy] at h2
 have h1' : a.eval x = .int k m := h1
 have h2' : a.eval y = .int k n := h2
 obtain ⟨u, hu, hv⟩ := h w
 refine ⟨u, ?_, hv _⟩
 simp only [execOp, ho, resolve, invoke, Sem.run_bind, Sem.run_pure, Result.andThen_ok, List.map_toArray, List.map_cons, List.map_nil, h1', h2']
 rw [hcs _ #[false, false]]
 exact hu
theorem q_min {k : IntKind} {m n : Int} {tys : Array TypeId} (ho : o.op = .call { callee := .builtin .min, args := #[x, y], argTypes := tys }) (hx : ev x = .c (.int k m)) (hy : ev y = .c (.int k n)) : QOp P o ev objs (.c (.int k (if n < m then n else m))) :=
 q_minmax ho hx hy (fun w => ⟨.int k (if n < m then n else m), by simp [builtin, Builtin.min_, Builtin.min2], fun _ => rfl⟩) (fun _ _ => rfl)
theorem run_equalB {p q : Bool} (ht : P.underlying t = some .bool) (w : World) : (Op.equal t (.bool p) (.bool q)).run P w = .ok (p == q) w := by
 have key : ∀ d, (Op.equalIn (d + 1) t (.bool p) (.bool q)).run P w = .ok (p == q) w := fun d => by simp [Op.equalIn, run_underlying ht]
 exact key 9999
theorem q_neqB {p q : Bool} {t2 : TypeId} (ho : o.op = .binOp .neq t x y t2) (hx : ev x = .c (.bool p)) (hy : ev y = .c (.bool q)) (ht : P.underlying t = some .bool) : QOp P o ev objs (.c (.bool (!(p == q)))) := by
 refine QOp.of_run fun e loc w a hr h => ?_
 have h1 := h x (by simp [ho, Op.operands]); rw [hx] at h1
 have h2 := h y (by simp [ho, Op.operands]); rw [hy] at h2
 have h1' : a.eval x = .bool p := h1
 have h2' : a.eval y = .bool q := h2
 have hb : (binOp .neq t (.bool p) (.bool q)).run P w = .ok (.bool (!(p == q))) w := by
  show (do pure (Value.bool (!(← Op.equal t (.bool p) (.bool q)))) : Sem Value).run P w = _
  simp only [Sem.run_bind, run_equalB ht, Result.andThen_ok, Sem.run_pure]
 have hg : (eqGuard .neq t x y (.bool p) (.bool q)).run P w = .ok () w := rfl
 refine ⟨.bool (!(p == q)), ?_, rfl⟩
 simp only [execOp, ho, h1', h2', Sem.run_bind, hg, hb, Result.andThen_ok, Sem.run_pure]
end
end Go.Proofs.Ytoncfkdgddfnlaa.E
