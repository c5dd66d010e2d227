/- Plain laws of chapter 49: the checks of balances; how lists are equal. -/
import Derived.Test.YtoncfkdgddfnlaaPlainB
namespace Go.Proofs.Ytoncfkdgddfnlaa.M
open Go Go.Proofs.Ytoncfkdgddfnlaa.E Go.Proofs.Ytoncfkdgddfnlaa.W
set_option linter.unusedVariables false
set_option linter.unusedSimpArgs false
def idB (s : ByteArray) : Bool := (chargenetref01_Valid 1000 s).getD false
theorem id_ref (s : ByteArray) : chargenetref01_Valid 1000 s = some (idB s) := by
 obtain ⟨b, hb⟩ := ident_total s
 unfold idB; rw [hb]; rfl
theorem id_eq (s : ByteArray) : ident_Valid 1000 s = some (idB s) := by rw [ident_eq, id_ref]
theorem cur_l_total (s : ByteArray) (hs : s.size ≤ 3) : ∀ (n i : Nat), i ≤ s.size → s.size < n + i → ∃ b, chargenetref49_currency_l14 s n (i : Int) = some b
 | 0, i, h1, h2 => by omega
 | n + 1, i, h1, h2 => by
  simp only [chargenetref49_currency_l14, chargenetref49_currency_b14]
  by_cases hi : i < s.size
  ·obtain ⟨b, hb⟩ := cur_l_total s hs n (i + 1) (by omega) (by omega)
   rw [show decide ((i : Int) < (s.size : Int)) = true by simpa using hi, cond_true, guard_pos (by omega), guard_pos (by omega), wsucc i (by omega), hb]
   exact opt_cond (opt_some _) (opt_cond (opt_some _) (opt_some _))
  ·rw [show decide ((i : Int) < (s.size : Int)) = false by simp; omega, cond_false]
   exact ⟨_, rfl⟩
theorem cur_total (s : ByteArray) : ∃ b, chargenetref49_currency 1000 s = some b := by
 unfold chargenetref49_currency
 by_cases h : (s.size : Int) = 3
 ·rw [decide_eq_true h]
  exact cur_l_total s (by omega) 1000 0 (by omega) (by omega)
 ·rw [decide_eq_false h]; exact ⟨_, rfl⟩
def cuB (s : ByteArray) : Bool := (chargenetref49_currency 1000 s).getD false
theorem cu_ref (s : ByteArray) : chargenetref49_currency 1000 s = some (cuB s) := by
 obtain ⟨b, hb⟩ := cur_total s
 unfold cuB; rw [hb]; rfl
theorem cu_l (s : ByteArray) : ∀ (n : Nat) (i : Int), settle_isCurrency_l14 s n i = chargenetref49_currency_l14 s n i
 | 0, i => rfl
 | n + 1, i => by
  simp only [settle_isCurrency_l14, settle_isCurrency_b14, chargenetref49_currency_l14, chargenetref49_currency_b14, cu_l s n]
  rfl
def parE (a b : ByteArray) : Int := bif !(idB a) then 4 else bif !(idB b) then 4 else bif sEq a b then 1 else 0
end Go.Proofs.Ytoncfkdgddfnlaa.M
