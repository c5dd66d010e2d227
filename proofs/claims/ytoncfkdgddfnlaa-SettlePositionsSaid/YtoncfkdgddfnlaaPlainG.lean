/- Plain laws of chapter 49: lists of positions, their order, and what one more amount changes. -/
import Derived.Test.YtoncfkdgddfnlaaPlainF
namespace Go.Proofs.Ytoncfkdgddfnlaa.M
open Go Go.Proofs.Ytoncfkdgddfnlaa.E Go.Proofs.Ytoncfkdgddfnlaa.W
set_option linter.unusedVariables false
set_option linter.unusedSimpArgs false
def keyP (e : SPosition) : ByteArray × ByteArray := (e.Currency, e.Party)
def addS (c k : ByteArray) (n : Int) : List SPosition → List SPosition
 | [] => [SPosition.mk c k n]
 | e :: r => bif sEq e.Currency c && sEq e.Party k then SPosition.mk e.Currency e.Party (IntKind.wrap .i64 (e.Amount + n)) :: r else e :: addS c k n r
theorem add_l (ps : List SPosition) (hl : ps.length ≤ 900) (c k : ByteArray) (n : Int) : ∀ (f i : Nat), i ≤ ps.length → ps.length < f + i → chargenetref49_add_l18 ps c k n f (i : Int) = some (ps.take i ++ addS c k n (ps.drop i))
 | 0, i, h1, h2 => by omega
 | f + 1, i, h1, h2 => by
  simp only [chargenetref49_add_l18, chargenetref49_add_b18, chargenetref49_add_p20]
  by_cases hi : i < ps.length
  ·have ih := add_l ps hl c k n f (i + 1) (by omega) (by omega)
   have htk : ps.take (i + 1) = ps.take i ++ [ps[i]] := by rw [List.take_add_one, List.getElem?_eq_getElem hi]; rfl
   rw [show decide ((i : Int) < (ps.length : Int)) = true by simpa using hi, cond_true, guard_pos (by omega), getD_nat ps _ i hi, wsucc i (by omega), ih, List.drop_eq_getElem_cons hi, guard_pos (by omega), guard_pos (by omega), htk]
   simp only [addS, Int.toNat_natCast]
   rcases Bool.eq_false_or_eq_true (sEq ps[i].Currency c) with q1 | q1 <;> rcases Bool.eq_false_or_eq_true (sEq ps[i].Party k) with q2 | q2 <;> simp only [q1, q2, cond_true, cond_false, Bool.and_true, Bool.and_false, Bool.true_and, Bool.false_and] <;> first | (rw [List.set_eq_take_append_cons_drop, if_pos hi]; done) | (rw [List.append_assoc]; rfl)
  ·rw [show decide ((i : Int) < (ps.length : Int)) = false from decide_eq_false (by omega), cond_false, List.drop_eq_nil_of_le (by omega), List.take_of_length_le (by omega)]
   unfold chargenetref49_add_p2
   rw [guard_pos (by simp; omega)]
   rfl
theorem add_eq (ps : List SPosition) (hl : ps.length ≤ 900) (c k : ByteArray) (n : Int) : chargenetref49_add 1000 ps c k n = some (addS c k n ps) := by
 unfold chargenetref49_add
 have := add_l ps hl c k n 1000 0 (by omega) (by omega)
 simpa using this
open Classical in
theorem addS_keys (c k : ByteArray) (n : Int) : ∀ ps : List SPosition, (addS c k n ps).map keyP = if (c, k) ∈ ps.map keyP then ps.map keyP else ps.map keyP ++ [(c, k)]
 | [] => by simp [addS, keyP]
 | e :: r => by
  simp only [addS]
  by_cases h : sEq e.Currency c = true ∧ sEq e.Party k = true
  ·have h1 := (sEq_iff _ _).1 h.1
   have h2 := (sEq_iff _ _).1 h.2
   rw [h.1, h.2]
   simp [keyP, h1, h2]
  ·have hb : (sEq e.Currency c && sEq e.Party k) = false := by
    rw [Bool.eq_false_iff]; intro hh; rw [Bool.and_eq_true] at hh; exact h hh
   have hne : (c, k) ≠ keyP e := fun he => h ⟨(sEq_iff _ _).2 (Prod.mk.inj he).1.symm, (sEq_iff _ _).2 (Prod.mk.inj he).2.symm⟩
   rw [hb, cond_false, List.map_cons, addS_keys c k n r, List.map_cons]
   by_cases hm : (c, k) ∈ r.map keyP
   ·rw [if_pos hm, if_pos (List.mem_cons_of_mem _ hm)]
   ·rw [if_neg hm, if_neg (fun hh => by rcases List.mem_cons.1 hh with h | h; exact hne h; exact hm h)]; rfl
theorem addS_len (c k : ByteArray) (n : Int) (ps : List SPosition) : (addS c k n ps).length ≤ ps.length + 1 := by
 have h := congrArg List.length (addS_keys c k n ps)
 rw [List.length_map] at h
 rw [h]
 split <;> simp
theorem addS_mem (c k : ByteArray) (n : Int) : ∀ ps : List SPosition, (ps.map keyP).Nodup → ∀ e ∈ addS c k n ps, (keyP e = (c, k) ∧ ((∃ e0 ∈ ps, keyP e0 = (c, k) ∧ e.Amount = IntKind.wrap .i64 (e0.Amount + n)) ∨ ((c, k) ∉ ps.map keyP ∧ e.Amount = n))) ∨ (keyP e ≠ (c, k) ∧ e ∈ ps)
 | [], _, e, he => by
  simp only [addS, List.mem_singleton] at he
  subst he
  exact .inl ⟨rfl, .inr ⟨by simp, rfl⟩⟩
 | e0 :: r, hn, e, he => by
  rw [List.map_cons, List.nodup_cons] at hn
  simp only [addS] at he
  by_cases h : sEq e0.Currency c = true ∧ sEq e0.Party k = true
  ·have h1 := (sEq_iff _ _).1 h.1
   have h2 := (sEq_iff _ _).1 h.2
   have hk : keyP e0 = (c, k) := by simp [keyP, h1, h2]
   rw [h.1, h.2] at he
   rcases List.mem_cons.1 he with rfl | he
   ·exact .inl ⟨hk, .inl ⟨e0, List.mem_cons_self, hk, rfl⟩⟩
   ·refine .inr ⟨fun hke => hn.1 ?_, List.mem_cons_of_mem _ he⟩
    rw [hk, ← hke]
    exact List.mem_map_of_mem he
  ·have hb : (sEq e0.Currency c && sEq e0.Party k) = false := by
    rw [Bool.eq_false_iff]; intro hh; rw [Bool.and_eq_true] at hh; exact h hh
   have hne : (c, k) ≠ keyP e0 := fun he => h ⟨(sEq_iff _ _).2 (Prod.mk.inj he).1.symm, (sEq_iff _ _).2 (Prod.mk.inj he).2.symm⟩
   rw [hb, cond_false] at he
   rcases List.mem_cons.1 he with rfl | he
   ·exact .inr ⟨Ne.symm hne, List.mem_cons_self⟩
   ·rcases addS_mem c k n r hn.2 e he with ⟨g1, ⟨e1, g2, g3⟩ | ⟨g2, g3⟩⟩ | ⟨g1, g2⟩
    ·exact .inl ⟨g1, .inl ⟨e1, List.mem_cons_of_mem _ g2, g3⟩⟩
    ·exact .inl ⟨g1, .inr ⟨fun hh => by rcases List.mem_cons.1 hh with h | h; exact hne h; exact g2 h, g3⟩⟩
    ·exact .inr ⟨g1, List.mem_cons_of_mem _ g2⟩
structure PI (ps : List SPosition) (p : Pos) (CK : ByteArray → ByteArray → Prop) : Prop where
 nd : (ps.map keyP).Nodup
 val : ∀ e ∈ ps, e.Amount = p e.Currency e.Party
 mem : ∀ c k, (c, k) ∈ ps.map keyP ↔ CK c k
 zero : ∀ c k, p c k ≠ 0 → CK c k
theorem PI.add {ps : List SPosition} {p : Pos} {CK : ByteArray → ByteArray → Prop} (h : PI ps p CK) (c k : ByteArray) (n : Int) (hb : -9223372036854775808 ≤ p c k + n ∧ p c k + n ≤ 9223372036854775807) :
  PI (addS c k n ps) (fun c' k' => if c' = c ∧ k' = k then p c k + n else p c' k') (fun c' k' => (c' = c ∧ k' = k) ∨ CK c' k') := by
 refine ⟨?_, fun e he => ?_, fun c' k' => ?_, fun c' k' hne => ?_⟩
 ·rw [addS_keys]
  split
  ·exact h.nd
  ·rename_i hn
   rw [List.nodup_append]
   exact ⟨h.nd, by simp, fun a ha b hb => by
    simp only [List.mem_singleton] at hb
    subst hb
    exact fun e => hn (by rw [← e]; exact ha)⟩
 ·rcases addS_mem c k n ps h.nd e he with ⟨g1, ⟨e1, g2, g3, g4⟩ | ⟨g2, g3⟩⟩ | ⟨g1, g2⟩
  ·have q := Prod.mk.inj g1
   have q2 := Prod.mk.inj g3
   rw [if_pos ⟨q.1, q.2⟩, g4, h.val e1 g2, q2.1, q2.2, w64 _ (by omega)]
  ·have q := Prod.mk.inj g1
   rw [if_pos ⟨q.1, q.2⟩, g3]
   have : p c k = 0 := by
    apply Decidable.byContradiction
    intro hne
    exact g2 ((h.mem c k).2 (h.zero c k hne))
   omega
  ·rw [if_neg (fun hh => g1 (by simp [keyP, hh.1, hh.2]))]
   exact h.val e g2
 ·rw [addS_keys, ← h.mem]
  split
  ·rename_i hm
   constructor
   ·exact fun hh => .inr hh
   ·rintro (⟨rfl, rfl⟩ | hh)
    ·exact hm
    ·exact hh
  ·rw [List.mem_append, List.mem_singleton]
   constructor
   ·rintro (hh | hh)
    ·exact .inr hh
    ·exact .inl ⟨(Prod.mk.inj hh).1, (Prod.mk.inj hh).2⟩
   ·rintro (⟨rfl, rfl⟩ | hh)
    ·exact .inr rfl
    ·exact .inl hh
 ·by_cases hc : c' = c ∧ k' = k
  ·exact .inl hc
  ·rw [if_neg hc] at hne
   exact .inr (h.zero c' k' hne)
def ltP (a b : SPosition) : Prop := sLt a.Currency b.Currency = true ∨ (a.Currency = b.Currency ∧ sLt a.Party b.Party = true)
theorem ltP_trans {a b c : SPosition} (h1 : ltP a b) (h2 : ltP b c) : ltP a c := by
 rcases h1 with h1 | ⟨h1, h1'⟩
 ·rcases h2 with h2 | ⟨h2, _⟩
  ·exact .inl (sLt_trans h1 h2)
  ·exact .inl (by rw [← h2]; exact h1)
 ·rcases h2 with h2 | ⟨h2, h2'⟩
  ·exact .inl (by rw [h1]; exact h2)
  ·exact .inr ⟨h1.trans h2, sLt_trans h1' h2'⟩
theorem ltP_tri (a b : SPosition) : ltP a b ∨ keyP a = keyP b ∨ ltP b a := by
 rcases sLt_tri a.Currency b.Currency with h | h | h
 ·exact .inl (.inl h)
 ·rcases sLt_tri a.Party b.Party with g | g | g
  ·exact .inl (.inr ⟨h, g⟩)
  ·exact .inr (.inl (by simp [keyP, h, g]))
  ·exact .inr (.inr (.inr ⟨h.symm, g⟩))
 ·exact .inr (.inr (.inl h))
theorem gt_eq (a b : ByteArray) : (!(sLt a b || sEq a b)) = sLt b a := by
 rcases sLt_tri a b with h | h | h
 ·have : sLt b a = false := by
   rw [Bool.eq_false_iff]; intro h2
   have := sLt_trans h h2
   rw [sLt_irrefl] at this; cases this
  rw [h, this]; rfl
 ·subst h; rw [sLt_irrefl, sEq_self]; rfl
 ·have h1 : sLt a b = false := by
   rw [Bool.eq_false_iff]; intro h2
   have := sLt_trans h h2
   rw [sLt_irrefl] at this; cases this
  have h2 : sEq a b = false := (sEq_false _ _).2 (fun e => by subst e; rw [sLt_irrefl] at h; cases h)
  rw [h, h1, h2]; rfl
theorem swap_perm {α : Type} (d : α) (o : List α) (i j : Nat) (hi : i < o.length) (hj : j < o.length) (hij : i < j) : ((o.set i (o.getD j d)).set j (o.getD i d)).Perm o := by
 have e1 : o.getD j d = o[j] := by simp [List.getD_eq_getElem?_getD, hj]
 have e2 : o.getD i d = o[i] := by simp [List.getD_eq_getElem?_getD, hi]
 rw [e1, e2]
 have h1 : o = o.take i ++ o[i] :: (o.drop (i + 1)) := by
  rw [← List.drop_eq_getElem_cons hi, List.take_append_drop]
 exact List.set_set_perm (by omega) (by omega)
end Go.Proofs.Ytoncfkdgddfnlaa.M
