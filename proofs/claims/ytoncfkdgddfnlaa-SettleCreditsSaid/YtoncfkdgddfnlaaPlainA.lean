/- Plain laws of chapter 49: the example; the two checks of an identifier agree; bytes in order; maps. -/
import Derived.Test.YtoncfkdgddfnlaaRead
namespace Go.Proofs.Ytoncfkdgddfnlaa.M
open Go Go.Proofs.Ytoncfkdgddfnlaa.E Go.Proofs.Ytoncfkdgddfnlaa.W
set_option linter.unusedVariables false
set_option linter.unusedSimpArgs false
theorem wsucc (t : Nat) (h : t < 1000000) : IntKind.wrap .i64 ((t : Int) + 1) = ((t + 1 : Nat) : Int) := by
 rw [Go.IntWalk.i64_in _ (by omega)]; omega
theorem getD_nat {α : Type} (l : List α) (d : α) (t : Nat) (h : t < l.length) : l.getD ((t : Int)).toNat d = l[t] := by
 simp [List.getD_eq_getElem?_getD, h]
theorem guard_pos {α : Type} {c : Prop} [Decidable c] {x : Option α} (h : c) : E.guard c x = x := by simp [E.guard, h]
def alnum (r : Int) : Bool := decide (48 ≤ r ∧ r ≤ 57) || decide (65 ≤ r ∧ r ≤ 90) || decide (97 ≤ r ∧ r ≤ 122)
theorem value_sign (F : Nat) (r : Int) : ∃ v, ident_value F r = some v ∧ decide (v < 0) = !alnum r := by
 unfold ident_value ident_value_p10 ident_value_p8 ident_value_p1
 by_cases h1 : 48 ≤ r ∧ r ≤ 57
 ·refine ⟨r - 48, ?_, ?_⟩
  ·simp only [h1.1, h1.2, decide_true, cond_true]
   rw [Go.IntWalk.i32_in _ (by omega), Go.IntWalk.i64_in _ (by omega)]
  ·have : alnum r = true := by simp [alnum, h1]
   rw [this]; simp; omega
 ·by_cases h2 : 65 ≤ r ∧ r ≤ 90
  ·refine ⟨r - 65 + 10, ?_, ?_⟩
   ·have h3 : ¬ r ≤ 57 := by omega
    have h4 : 48 ≤ r := by omega
    simp only [h4, h3, h2.1, h2.2, decide_true, decide_false, cond_true, cond_false]
    rw [Go.IntWalk.i32_in _ (by omega), Go.IntWalk.i64_in (r - 65) (by omega), Go.IntWalk.i64_in _ (by omega)]
   ·have : alnum r = true := by simp [alnum, h2]
    rw [this]; simp; omega
  ·by_cases h3 : 97 ≤ r ∧ r ≤ 122
   ·refine ⟨r - 97 + 10, ?_, ?_⟩
    ·have h4 : 48 ≤ r := by omega
     have h5 : ¬ r ≤ 57 := by omega
     have h6 : 65 ≤ r := by omega
     have h7 : ¬ r ≤ 90 := by omega
     simp only [h4, h5, h6, h7, h3.1, h3.2, decide_true, decide_false, cond_true, cond_false]
     rw [Go.IntWalk.i32_in _ (by omega), Go.IntWalk.i64_in (r - 97) (by omega), Go.IntWalk.i64_in _ (by omega)]
    ·have : alnum r = true := by simp [alnum, h3]
     rw [this]; simp; omega
   ·refine ⟨-1, ?_, ?_⟩
    ·by_cases a1 : 48 ≤ r <;> by_cases a2 : r ≤ 57 <;> by_cases a3 : 65 ≤ r <;> by_cases a4 : r ≤ 90 <;> by_cases a5 : 97 ≤ r <;> by_cases a6 : r ≤ 122 <;>
      first | omega | simp [a1, a2, a3, a4, a5, a6]
    ·have : alnum r = false := by simp [alnum]; omega
     rw [this]; rfl
theorem ref_value_fin : ∀ c : Fin 256, ∃ v ∈ (chargenetref01_Value 1000 ((c.val : Nat) : Int)).toList, decide (v < 0) = !alnum ((c.val : Nat) : Int) := by decide +kernel
theorem ref_value (c : Int) (h0 : 0 ≤ c) (h1 : c ≤ 255) : ∃ v, chargenetref01_Value 1000 c = some v ∧ decide (v < 0) = !alnum c := by
 obtain ⟨v, hv, hs⟩ := ref_value_fin ⟨c.toNat, by omega⟩
 have hc : ((c.toNat : Nat) : Int) = c := by omega
 simp only [hc] at hv hs
 exact ⟨v, by simpa using hv, hs⟩
theorem sGet_range (s : ByteArray) (i : Nat) : 0 ≤ sGet s i ∧ sGet s i ≤ 255 := by
 unfold sGet
 have := (s.data.toList.getD i 0).toNat_lt
 omega
theorem dec_lo {s : ByteArray} {pos : Nat} (h : pos < s.size) (ha : sGet s pos < 128) : ((Utf8.decode s pos).1 : Int) = sGet s pos ∧ (Utf8.decode s pos).2 = 1 := by
 have h2 := sGet_at h
 have h3 := decode_ascii s pos h (by omega)
 rw [h3]
 exact ⟨h2, rfl⟩
theorem dec_hi {s : ByteArray} {pos : Nat} (h : pos < s.size) (ha : 128 ≤ sGet s pos) : 128 ≤ (Utf8.decode s pos).1 := by
 have h2 := sGet_at h
 have e : s.get! (pos + 0) = s[pos]'h := by
  show s.get! pos = _
  simp [ByteArray.get!, getElem!_pos, h]
  rfl
 have hb : ¬ (s[pos]'h).toNat < 128 := by omega
 simp only [Utf8.decode, e]
 rw [if_neg hb]
 split
 ·split
  ·rename_i h3; exact h3
  ·decide
 ·split
  ·split
   ·rename_i h3; simp at h3; omega
   ·decide
  ·split
   ·split
    ·rename_i h3; simp at h3; omega
    ·decide
   ·decide
theorem valid_l (s : ByteArray) (hs : s.size ≤ 36) : ∀ (n pos : Nat), ident_Valid_l29 1000 s n pos = chargenetref01_Valid_l27 1000 s n (pos : Int)
 | 0, pos => rfl
 | n + 1, pos => by
  simp only [ident_Valid_l29, ident_Valid_b29, chargenetref01_Valid_l27, chargenetref01_Valid_b27]
  by_cases hp : pos < s.size
  ·have e1 : decide ((pos : Int) < (s.size : Int)) = true := by simpa using hp
   have e2 : 0 ≤ (pos : Int) ∧ (pos : Int) < (s.size : Int) := by omega
   obtain ⟨r0, r1⟩ := sGet_range s pos
   obtain ⟨v, hv, hsg⟩ := ref_value (sGet s pos) r0 r1
   have hnat : ((pos : Int)).toNat = pos := by omega
   rw [e1, cond_true, guard_pos e2, hnat, hv]
   simp only [decide_eq_true hp, cond_true, Option.bind_some, hsg, chargenetref01_Valid_p29, ident_Valid_p36, wsucc pos (by omega)]
   by_cases ha : sGet s pos < 128
   ·obtain ⟨d1, d2⟩ := dec_lo hp ha
    obtain ⟨v2, hv2, hsg2⟩ := value_sign 1000 (sGet s pos)
    have ih := valid_l s hs n (pos + 1)
    simp only [d1, d2, hv2, Option.bind_some, hsg2, ih]
    by_cases c1 : sGet s pos = 45
    ·simp [c1, alnum]
    by_cases c2 : sGet s pos = 95
    ·simp [c2, alnum]
    by_cases c3 : sGet s pos = 46
    ·simp [c3, alnum]
    by_cases c4 : sGet s pos = 58
    ·simp [c4, alnum]
    by_cases c5 : sGet s pos = 42
    ·simp [c5, alnum]
    simp only [c1, c2, c3, c4, c5, decide_false, cond_false, Bool.not_false, cond_true]
   ·have hd := dec_hi hp (by omega)
    obtain ⟨v2, hv2, hsg2⟩ := value_sign 1000 ((Utf8.decode s pos).1 : Int)
    have a1 : alnum ((Utf8.decode s pos).1 : Int) = false := by simp [alnum]; omega
    have a2 : alnum (sGet s pos) = false := by simp [alnum]; omega
    have n1 : ¬ ((Utf8.decode s pos).1 : Int) = 45 := by omega
    have n2 : ¬ ((Utf8.decode s pos).1 : Int) = 95 := by omega
    have n3 : ¬ ((Utf8.decode s pos).1 : Int) = 46 := by omega
    have n4 : ¬ ((Utf8.decode s pos).1 : Int) = 58 := by omega
    have n5 : ¬ ((Utf8.decode s pos).1 : Int) = 42 := by omega
    have m1 : ¬ sGet s pos = 45 := by omega
    have m2 : ¬ sGet s pos = 95 := by omega
    have m3 : ¬ sGet s pos = 46 := by omega
    have m4 : ¬ sGet s pos = 58 := by omega
    have m5 : ¬ sGet s pos = 42 := by omega
    simp only [hv2, Option.bind_some, hsg2, a1, a2, n1, n2, n3, n4, n5, m1, m2, m3, m4, m5, decide_false, cond_false, Bool.not_false, cond_true]
  ·have e1 : decide ((pos : Int) < (s.size : Int)) = false := by simp; omega
   rw [e1, decide_eq_false hp]
   rfl
theorem ident_eq (s : ByteArray) : ident_Valid 1000 s = chargenetref01_Valid 1000 s := by
 unfold ident_Valid chargenetref01_Valid
 cases decide ((s.size : Int) < 1) with
 | true => rfl
 | false =>
  simp only [cond_false]
  cases h : decide ((36 : Int) < (s.size : Int)) with
  | true => rfl
  | false =>
   simp only [cond_false]
   have := of_decide_eq_false h
   exact valid_l s (by omega) 1000 0
theorem opt_cond {α : Type} {b : Bool} {x y : Option α} (hx : ∃ v, x = some v) (hy : ∃ v, y = some v) : ∃ v, (bif b then x else y) = some v := by
 cases b <;> assumption
theorem opt_some {α : Type} (a : α) : ∃ v, some a = some v := ⟨a, rfl⟩
theorem ident_l_total (s : ByteArray) (hs : s.size ≤ 36) : ∀ (n pos : Nat), pos ≤ s.size → s.size < n + pos → ∃ b, chargenetref01_Valid_l27 1000 s n (pos : Int) = some b
 | 0, pos, h1, h2 => by omega
 | n + 1, pos, h1, h2 => by
  simp only [chargenetref01_Valid_l27, chargenetref01_Valid_b27]
  by_cases hp : pos < s.size
  ·have e1 : decide ((pos : Int) < (s.size : Int)) = true := by simpa using hp
   have e2 : 0 ≤ (pos : Int) ∧ (pos : Int) < (s.size : Int) := by omega
   obtain ⟨r0, r1⟩ := sGet_range s pos
   obtain ⟨v, hv, hsg⟩ := ref_value (sGet s pos) r0 r1
   have hnat : ((pos : Int)).toNat = pos := by omega
   obtain ⟨b, hb⟩ := ident_l_total s hs n (pos + 1) (by omega) (by omega)
   rw [e1, cond_true, guard_pos e2, hnat, hv]
   simp only [Option.bind_some, chargenetref01_Valid_p29, wsucc pos (by omega), hb]
   exact opt_cond (opt_cond (opt_cond (opt_cond (opt_cond (opt_cond (opt_some _) (opt_some _)) (opt_some _)) (opt_some _)) (opt_some _)) (opt_some _)) (opt_some _)
  ·have e1 : decide ((pos : Int) < (s.size : Int)) = false := by simp; omega
   rw [e1]; exact ⟨_, rfl⟩
theorem ident_total (s : ByteArray) : ∃ b, chargenetref01_Valid 1000 s = some b := by
 unfold chargenetref01_Valid
 cases decide ((s.size : Int) < 1) with
 | true => exact ⟨_, rfl⟩
 | false =>
  simp only [cond_false]
  cases h : decide ((36 : Int) < (s.size : Int)) with
  | true => exact ⟨_, rfl⟩
  | false =>
   have := of_decide_eq_false h
   exact ident_l_total s (by omega) 1000 0 (by omega) (by omega)
theorem sEq_iff (a b : ByteArray) : sEq a b = true ↔ a = b := by
 unfold sEq
 rw [beq_iff_eq]
 constructor
 ·intro h
  obtain ⟨⟨x⟩⟩ := a
  obtain ⟨⟨y⟩⟩ := b
  simpa using h
 ·rintro rfl; rfl
theorem sEq_comm (a b : ByteArray) : sEq a b = sEq b a := by
 rw [Bool.eq_iff_iff, sEq_iff, sEq_iff]
 exact ⟨Eq.symm, Eq.symm⟩
theorem alook_nil {α : Type} (t : ByteArray) : alook ([] : List (ByteArray × α)) t = none := rfl
theorem alook_cons {α : Type} (k : ByteArray) (v : α) (l : List (ByteArray × α)) (t : ByteArray) : alook ((k, v) :: l) t = if sEq t k then some v else alook l t := by
 unfold alook
 simp only [aidx]
 cases sEq t k with
 | true => simp
 | false =>
  simp only [cond_false, Bool.false_eq_true, if_false]
  cases aidx l t with
  | none => rfl
  | some j => simp
theorem aset_nil {α : Type} (s : ByteArray) (v : α) : aset ([] : List (ByteArray × α)) s v = [(s, v)] := rfl
theorem aset_cons {α : Type} (k : ByteArray) (w : α) (l : List (ByteArray × α)) (s : ByteArray) (v : α) : aset ((k, w) :: l) s v = if sEq s k then (s, v) :: l else (k, w) :: aset l s v := by
 unfold aset
 simp only [aidx]
 cases sEq s k with
 | true => simp
 | false =>
  simp only [cond_false, Bool.false_eq_true, if_false]
  cases aidx l s with
  | none => rfl
  | some j => simp
theorem alook_aset {α : Type} (s t : ByteArray) (v : α) : ∀ l : List (ByteArray × α), alook (aset l s v) t = if sEq t s then some v else alook l t
 | [] => by rw [aset_nil, alook_cons]
 | (k, w) :: l => by
  rw [aset_cons, alook_cons]
  by_cases h : sEq s k = true
  ·rw [if_pos h, alook_cons]
   by_cases h2 : sEq t s = true
   ·rw [if_pos h2, if_pos h2]
   ·rw [if_neg h2, if_neg h2]
    have : ¬ sEq t k = true := by
     rw [sEq_iff] at h h2 ⊢
     rw [← h]; exact h2
    rw [if_neg this]
  ·rw [if_neg h, alook_cons, alook_aset s t v l]
   by_cases h2 : sEq t s = true
   ·rw [if_pos h2]
    have : ¬ sEq t k = true := by
     rw [sEq_iff] at h h2 ⊢
     rw [h2]; exact h
    rw [if_neg this, if_pos h2]
   ·rw [if_neg h2, if_neg h2]
end Go.Proofs.Ytoncfkdgddfnlaa.M
