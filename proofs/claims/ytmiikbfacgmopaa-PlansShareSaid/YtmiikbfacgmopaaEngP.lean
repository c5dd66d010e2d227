/- The library's sort at int; structures compared; a slice compared to nil. -/
import Derived.Test.YtmiikbfacgmopaaEngO
import Derived.Sort.Grow
import Derived.Sort.Row
import Derived.Laws.StructEq
import Derived.ChangeKeysEq
import Derived.Laws.Shifts
namespace Go.Proofs.Ytmiikbfacgmopaa.E
open Go Go.RowKit
set_option linter.unusedVariables false
section
variable {P : Program} {N : Fr} {o : Oper} {st : St} {x y : Operand} {t : TypeId} {d : Nat} {ev : Operand → AV} {objs : List Ob}
theorem SOps.nilcmp {te : TypeId} {ops : Array Oper} {i : Nat} {rest : List Nat} {K : St → Prop} {n k : Nat} {get : Nat → Nat → Cell} {t2 : TypeId} (hoi : ops[i]? = some o) (hg : Runs ops st o) (ho : o.op = .binOp .eql t x y t2) (hd : o.dst = some d) (hN : Nat.blt d N.N = true)
  (hx : evs st.slots x = .c (.vec n k get)) (hy : evs st.slots y = .c (.raw (.slice none 0 0)))
  (ht : P.underlying t = some (.slice te)) (hk : 0 < k) (h1 : n = 0 → SOps P N ops rest ⟨(d, .c (.bool true)) :: st.slots, st.objs⟩ K) (h2 : SOps P N ops rest ⟨(d, .c (.bool false)) :: st.slots, st.objs⟩ K) : SOps P N ops (i :: rest) st K := by
 intro e loc a w hr
 simp only [wpOps, hoi]
 rw [if_pos (hg.wanted hr)]
 refine .inl ?_
 have g1 := hr.eval x; rw [hx] at g1
 have g2 := hr.eval y; rw [hy] at g2
 obtain ⟨ad, c, hv, hc, hp⟩ := g1
 have hv2 : a.eval y = .slice none 0 0 := g2
 obtain ⟨b, hb, hb0⟩ : ∃ b, (execOp a.eval o).run P w = .ok (.value (.bool b)) w ∧ (b = true → n = 0) := by
  refine ⟨ad.isNone, ?_, fun hb => ?_⟩
  ·have hgd : (eqGuard .eql t x y (.slice ad n c) (.slice none 0 0)).run P w = .ok () w := rfl
   have hbin : (binOp .eql t (.slice ad n c) (.slice none 0 0)).run P w = .ok (.bool ad.isNone) w := by
    show (do pure (Value.bool (← Op.equal t (.slice ad n c) (.slice none 0 0))) : Sem Value).run P w = _
    have hq : (Op.equal t (.slice ad n c) (.slice none 0 0)).run P w = .ok ad.isNone w := by
     have key : ∀ d, (Op.equalIn (d + 1) t (.slice ad n c) (.slice none 0 0)).run P w = .ok ad.isNone w := fun d => by
      cases ad <;> simp [Op.equalIn, run_underlying ht]
     exact key 9999
    simp only [Sem.run_bind, hq, Result.andThen_ok, Sem.run_pure]
   simp only [execOp, ho, hv, hv2, Sem.run_bind, hgd, hbin, Result.andThen_ok, Sem.run_pure]
  ·cases ad with
   | some ad => cases hb
   | none =>
    by_cases hn0 : n = 0
    ·exact hn0
    ·by_cases hk0 : k = 0
     ·exact absurd hk0 (by omega)
     ·obtain ⟨b, off, h, _⟩ := hp (by omega) (by omega)
      cases h
 unfold Oper.wp
 rw [hb, Oper.upon_value, hd]
 have hput : ∀ b', SRep e N ⟨(d, .c (.bool b')) :: st.slots, st.objs⟩ loc (a.put (some d) (.bool b')) w := fun b' => hr.put (some d) (fun s hs => by cases hs; simpa [Nat.blt_eq] using hN) (v := .c (.bool b')) rfl
 cases b with
 | true => exact h1 (hb0 rfl) e loc _ _ (hput true)
 | false => exact h2 e loc _ _ (hput false)
end
end Go.Proofs.Ytmiikbfacgmopaa.E
