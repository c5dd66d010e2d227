/- Tables of rows: an array of slices, each with memory of its own. A row is taken out, and laid back. -/
import Derived.Test.YtoncfkdgddfnlaaEngT
namespace Go.Proofs.Ytoncfkdgddfnlaa.E
open Go Go.RowKit
set_option linter.unusedVariables false
theorem Sub.reform {N : Fr} {st : St} {objs' : List Ob} (h : ∀ (e : Env) (loc : Loc) (w : World), HRep e st.objs loc w → ∃ loc', Step e st.objs loc w objs' loc' w) : Sub N st ⟨st.slots, objs'⟩ := by
 intro e loc a w hr
 obtain ⟨loc', hs⟩ := h e loc w hr.heap
 exact ⟨loc', hr.step hs⟩
theorem set_case {objs : List Ob} {id : Nat} {o' : Ob} (hid : id < objs.length) : ∀ i o2, (objs.set id o')[i]? = some o2 → (i ≠ id ∧ objs[i]? = some o2) ∨ (i = id ∧ o2 = o') := by
 intro i o2 hi
 rw [List.getElem?_set] at hi
 by_cases hii : id = i
 ·subst hii
  simp [hid] at hi
  exact .inr ⟨rfl, hi.symm⟩
 ·rw [if_neg hii] at hi
  exact .inl ⟨fun hh => hii hh.symm, hi⟩
section
variable {α : Type} {c : α → Nat → Cell} {d0 : α} {P : Program} {N : Fr} {o : Oper} {st : St} {x y : Operand} {t : TypeId} {d : Nat} {ev : Operand → AV} {objs : List Ob}
def iAnd (k : IntKind) (m n : Int) : Int := k.wrap ((BitVec.ofInt k.bits m &&& BitVec.ofInt k.bits n).toNat : Nat)
end
end Go.Proofs.Ytoncfkdgddfnlaa.E
