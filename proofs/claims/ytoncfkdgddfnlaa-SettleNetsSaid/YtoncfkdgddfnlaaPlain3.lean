/- Plain law SettleNets: Net returns what the reference returns. -/
import Derived.Test.YtoncfkdgddfnlaaPlainJ
namespace Go.Proofs.Ytoncfkdgddfnlaa.M
open Go Go.Proofs.Ytoncfkdgddfnlaa.E Go.Proofs.Ytoncfkdgddfnlaa.W
set_option linter.unusedVariables false
theorem Path.len (KK : List (ByteArray × ByteArray)) {a : List SBalance} {p q : Pos} (h : Path p a q) (hs : ∀ c k, p c k ≠ 0 → (c, k) ∈ KK) : a.length ≤ KK.length := by
 have hc := h.count (fun _ => true) KK hs
 have hn : nzq (fun _ => true) KK p ≤ KK.length := List.length_filter_le _ _
 have e : a.filter (fun t => true) = a := List.filter_eq_self.2 (fun _ _ => rfl)
 rw [e] at hc
 omega
def keysL (l : List SBalance) : List (ByteArray × ByteArray) := l.flatMap (fun t => [(t.Currency, t.Creditor), (t.Currency, t.Debtor)])
theorem keysL_len (l : List SBalance) : (keysL l).length = 2 * l.length := by
 induction l with
 | nil => rfl
 | cons t l ih => simp only [keysL, List.flatMap_cons, List.length_append, List.length_cons, List.length_nil] at ih ⊢; omega
theorem keysL_sup (l : List SBalance) (c k : ByteArray) (h : posOf l c k ≠ 0) : (c, k) ∈ keysL l := by
 obtain ⟨t, ht, rfl, hk⟩ := posOf_supp l c k h
 refine List.mem_flatMap.2 ⟨t, ht, ?_⟩
 rcases hk with rfl | rfl <;> simp
theorem plain_chargenetlaw49_SettleNets (a0 : List SBalance) (w0 : okVec okSBalance a0) : ∃ F, chargenetlaw49_SettleNets F a0 = some true := by
 refine ⟨1000, ?_⟩
 unfold chargenetlaw49_SettleNets
 by_cases h : (60 : Int) < (a0.length : Int)
 ·rw [decide_eq_true h, cond_true, example_ok]; rfl
 ·rw [decide_eq_false h, cond_false]
  by_cases h0 : lE a0 = 0
  ·obtain ⟨out, q, e1, e2, e3⟩ := Net_ok a0 (by omega) h0
   obtain ⟨out', q', f1, f2, f3⟩ := ref_ok a0 (by omega) h0
   have e := Path.det e2 f2 e3 f3
   subst e
   have hlen := e2.len (keysL a0) (keysL_sup a0)
   rw [keysL_len] at hlen
   rw [e1, Option.bind_some, f1, Option.bind_some]
   simp only [decide_true, cond_true]
   rw [same_self out (by omega)]; rfl
  ·rw [Net_eq a0 (by omega), ref_Net_eq a0 (by omega), decide_eq_false h0]
   simp only [Bool.not_false, cond_true, Option.bind_some, decide_true]
   rfl
end Go.Proofs.Ytoncfkdgddfnlaa.M
