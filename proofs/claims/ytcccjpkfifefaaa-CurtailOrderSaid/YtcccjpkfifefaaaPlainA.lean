/- Plain laws of chapter 13: the example; the two checks of an identifier agree; bytes in order; equal lists. -/
import Derived.Test.YtcccjpkfifefaaaRead
namespace Go.Proofs.Ytcccjpkfifefaaa.M
open Go Go.Proofs.Ytcccjpkfifefaaa.E Go.Proofs.Ytcccjpkfifefaaa.W
set_option linter.unusedVariables false
set_option linter.unusedSimpArgs false

theorem wf64 {a : Int} (h : (Lit.int .i64 a).wf = true) : -9223372036854775808 ≤ a ∧ a ≤ 9223372036854775807 := by
  simp [Lit.wf, IntKind.min, IntKind.max, IntKind.signed, IntKind.bits] at h
  omega
theorem wsucc (t : Nat) (h : t < 1000000) : IntKind.wrap .i64 ((t : Int) + 1) = ((t + 1 : Nat) : Int) := by
  rw [Go.IntWalk.i64_in _ (by omega)]; omega
theorem getD_nat {α : Type} (l : List α) (d : α) (t : Nat) (h : t < l.length) : l.getD ((t : Int)).toNat d = l[t] := by
  simp [List.getD_eq_getElem?_getD, h]
theorem guard_pos {α : Type} {c : Prop} [Decidable c] {x : Option α} (h : c) : E.guard c x = x := by simp [E.guard, h]
theorem example_ok : chargenetlaw13_exampleHolds 1000 = some true := by rfl

def alnum (r : Int) : Bool := decide (48 ≤ r ∧ r ≤ 57) || decide (65 ≤ r ∧ r ≤ 90) || decide (97 ≤ r ∧ r ≤ 122)
def special (r : Int) : Bool := decide (r = 45) || decide (r = 95) || decide (r = 46) || decide (r = 58) || decide (r = 42)

theorem value_sign (F : Nat) (r : Int) : ∃ v, ident_value F r = some v ∧ decide (v < 0) = !alnum r := by
  unfold ident_value ident_value_p10 ident_value_p8 ident_value_p1
  by_cases h1 : 48 ≤ r ∧ r ≤ 57
  · refine ⟨r - 48, ?_, ?_⟩
    · simp only [h1.1, h1.2, decide_true, cond_true]
      rw [Go.IntWalk.i32_in _ (by omega), Go.IntWalk.i64_in _ (by omega)]
    · have : alnum r = true := by simp [alnum, h1]
      rw [this]; simp; omega
  · by_cases h2 : 65 ≤ r ∧ r ≤ 90
    · refine ⟨r - 65 + 10, ?_, ?_⟩
      · have h3 : ¬ r ≤ 57 := by omega
        have h4 : 48 ≤ r := by omega
        simp only [h4, h3, h2.1, h2.2, decide_true, decide_false, cond_true, cond_false]
        rw [Go.IntWalk.i32_in _ (by omega), Go.IntWalk.i64_in (r - 65) (by omega), Go.IntWalk.i64_in _ (by omega)]
      · have : alnum r = true := by simp [alnum, h2]
        rw [this]; simp; omega
    · by_cases h3 : 97 ≤ r ∧ r ≤ 122
      · refine ⟨r - 97 + 10, ?_, ?_⟩
        · have h4 : 48 ≤ r := by omega
          have h5 : ¬ r ≤ 57 := by omega
          have h6 : 65 ≤ r := by omega
          have h7 : ¬ r ≤ 90 := by omega
          simp only [h4, h5, h6, h7, h3.1, h3.2, decide_true, decide_false, cond_true, cond_false]
          rw [Go.IntWalk.i32_in _ (by omega), Go.IntWalk.i64_in (r - 97) (by omega), Go.IntWalk.i64_in _ (by omega)]
        · have : alnum r = true := by simp [alnum, h3]
          rw [this]; simp; omega
      · refine ⟨-1, ?_, ?_⟩
        · by_cases a1 : 48 ≤ r <;> by_cases a2 : r ≤ 57 <;> by_cases a3 : 65 ≤ r <;> by_cases a4 : r ≤ 90 <;> by_cases a5 : 97 ≤ r <;> by_cases a6 : r ≤ 122 <;>
            first | omega | simp [a1, a2, a3, a4, a5, a6]
        · have : alnum r = false := by simp [alnum]; omega
          rw [this]; rfl

theorem ref_value_fin : ∀ c : Fin 256, ∃ v ∈ (chargenetref01_Value 1000 ((c.val : Nat) : Int)).toList, decide (v < 0) = !alnum ((c.val : Nat) : Int) := by decide +kernel
theorem ref_value (c : Int) (h0 : 0 ≤ c) (h1 : c ≤ 255) : ∃ v, chargenetref01_Value 1000 c = some v ∧ decide (v < 0) = !alnum c := by
  obtain ⟨v, hv, hs⟩ := ref_value_fin ⟨c.toNat, by omega⟩
  have hc : ((c.toNat : Nat) : Int) = c := by omega
  simp only [hc] at hv hs
  exact ⟨v, by simpa using hv, hs⟩

theorem sGet_range (s : ByteArray) (i : Nat) : 0 ≤ sGet s i ∧ sGet s i ≤ 255 := by
  unfold sGet
  have := (s.data.toList.getD i 0).toNat_lt
  omega

theorem dec_lo {s : ByteArray} {pos : Nat} (h : pos < s.size) (ha : sGet s pos < 128) : ((Utf8.decode s pos).1 : Int) = sGet s pos ∧ (Utf8.decode s pos).2 = 1 := by
  have h2 := sGet_at h
  have h3 := decode_ascii s pos h (by omega)
  rw [h3]
  exact ⟨h2, rfl⟩

theorem dec_hi {s : ByteArray} {pos : Nat} (h : pos < s.size) (ha : 128 ≤ sGet s pos) : 128 ≤ (Utf8.decode s pos).1 := by
  have h2 := sGet_at h
  have e : s.get! (pos + 0) = s[pos]'h := by
    show s.get! pos = _
    simp [ByteArray.get!, getElem!_pos, h]
    rfl
  have hb : ¬ (s[pos]'h).toNat < 128 := by omega
  simp only [Utf8.decode, e]
  rw [if_neg hb]
  split
  · split
    · rename_i h3; exact h3
    · decide
  · split
    · split
      · rename_i h3; simp at h3; omega
      · decide
    · split
      · split
        · rename_i h3; simp at h3; omega
        · decide
      · decide

theorem valid_l (s : ByteArray) (hs : s.size ≤ 36) : ∀ (n pos : Nat), ident_Valid_l29 1000 s n pos = chargenetref01_Valid_l27 1000 s n (pos : Int)
  | 0, pos => rfl
  | n + 1, pos => by
    simp only [ident_Valid_l29, ident_Valid_b29, chargenetref01_Valid_l27, chargenetref01_Valid_b27]
    by_cases hp : pos < s.size
    · have e1 : decide ((pos : Int) < (s.size : Int)) = true := by simpa using hp
      have e2 : 0 ≤ (pos : Int) ∧ (pos : Int) < (s.size : Int) := by omega
      obtain ⟨r0, r1⟩ := sGet_range s pos
      obtain ⟨v, hv, hsg⟩ := ref_value (sGet s pos) r0 r1
      have hnat : ((pos : Int)).toNat = pos := by omega
      rw [e1, cond_true, guard_pos e2, hnat, hv]
      simp only [decide_eq_true hp, cond_true, Option.bind_some, hsg, chargenetref01_Valid_p29, ident_Valid_p36, wsucc pos (by omega)]
      by_cases ha : sGet s pos < 128
      · obtain ⟨d1, d2⟩ := dec_lo hp ha
        obtain ⟨v2, hv2, hsg2⟩ := value_sign 1000 (sGet s pos)
        have ih := valid_l s hs n (pos + 1)
        simp only [d1, d2, hv2, Option.bind_some, hsg2, ih]
        by_cases c1 : sGet s pos = 45
        · simp [c1, alnum]
        by_cases c2 : sGet s pos = 95
        · simp [c2, alnum]
        by_cases c3 : sGet s pos = 46
        · simp [c3, alnum]
        by_cases c4 : sGet s pos = 58
        · simp [c4, alnum]
        by_cases c5 : sGet s pos = 42
        · simp [c5, alnum]
        simp only [c1, c2, c3, c4, c5, decide_false, cond_false, Bool.not_false, cond_true]
      · have hd := dec_hi hp (by omega)
        obtain ⟨v2, hv2, hsg2⟩ := value_sign 1000 ((Utf8.decode s pos).1 : Int)
        have a1 : alnum ((Utf8.decode s pos).1 : Int) = false := by simp [alnum]; omega
        have a2 : alnum (sGet s pos) = false := by simp [alnum]; omega
        have n1 : ¬ ((Utf8.decode s pos).1 : Int) = 45 := by omega
        have n2 : ¬ ((Utf8.decode s pos).1 : Int) = 95 := by omega
        have n3 : ¬ ((Utf8.decode s pos).1 : Int) = 46 := by omega
        have n4 : ¬ ((Utf8.decode s pos).1 : Int) = 58 := by omega
        have n5 : ¬ ((Utf8.decode s pos).1 : Int) = 42 := by omega
        have m1 : ¬ sGet s pos = 45 := by omega
        have m2 : ¬ sGet s pos = 95 := by omega
        have m3 : ¬ sGet s pos = 46 := by omega
        have m4 : ¬ sGet s pos = 58 := by omega
        have m5 : ¬ sGet s pos = 42 := by omega
        simp only [hv2, Option.bind_some, hsg2, a1, a2, n1, n2, n3, n4, n5, m1, m2, m3, m4, m5, decide_false, cond_false, Bool.not_false, cond_true]
    · have e1 : decide ((pos : Int) < (s.size : Int)) = false := by simp; omega
      rw [e1, decide_eq_false hp]
      rfl

theorem ident_eq (s : ByteArray) : ident_Valid 1000 s = chargenetref01_Valid 1000 s := by
  unfold ident_Valid chargenetref01_Valid
  cases decide ((s.size : Int) < 1) with
  | true => rfl
  | false =>
    simp only [cond_false]
    cases h : decide ((36 : Int) < (s.size : Int)) with
    | true => rfl
    | false =>
      simp only [cond_false]
      have := of_decide_eq_false h
      exact valid_l s (by omega) 1000 0


theorem opt_cond {α : Type} {b : Bool} {x y : Option α} (hx : ∃ v, x = some v) (hy : ∃ v, y = some v) : ∃ v, (bif b then x else y) = some v := by
  cases b <;> assumption
theorem opt_some {α : Type} (a : α) : ∃ v, some a = some v := ⟨a, rfl⟩

theorem ident_l_total (s : ByteArray) (hs : s.size ≤ 36) : ∀ (n pos : Nat), pos ≤ s.size → s.size < n + pos → ∃ b, chargenetref01_Valid_l27 1000 s n (pos : Int) = some b
  | 0, pos, h1, h2 => by omega
  | n + 1, pos, h1, h2 => by
    simp only [chargenetref01_Valid_l27, chargenetref01_Valid_b27]
    by_cases hp : pos < s.size
    · have e1 : decide ((pos : Int) < (s.size : Int)) = true := by simpa using hp
      have e2 : 0 ≤ (pos : Int) ∧ (pos : Int) < (s.size : Int) := by omega
      obtain ⟨r0, r1⟩ := sGet_range s pos
      obtain ⟨v, hv, hsg⟩ := ref_value (sGet s pos) r0 r1
      have hnat : ((pos : Int)).toNat = pos := by omega
      obtain ⟨b, hb⟩ := ident_l_total s hs n (pos + 1) (by omega) (by omega)
      rw [e1, cond_true, guard_pos e2, hnat, hv]
      simp only [Option.bind_some, chargenetref01_Valid_p29, wsucc pos (by omega), hb]
      exact opt_cond (opt_cond (opt_cond (opt_cond (opt_cond (opt_cond (opt_some _) (opt_some _)) (opt_some _)) (opt_some _)) (opt_some _)) (opt_some _)) (opt_some _)
    · have e1 : decide ((pos : Int) < (s.size : Int)) = false := by simp; omega
      rw [e1]; exact ⟨_, rfl⟩

theorem ident_total (s : ByteArray) : ∃ b, chargenetref01_Valid 1000 s = some b := by
  unfold chargenetref01_Valid
  cases decide ((s.size : Int) < 1) with
  | true => exact ⟨_, rfl⟩
  | false =>
    simp only [cond_false]
    cases h : decide ((36 : Int) < (s.size : Int)) with
    | true => exact ⟨_, rfl⟩
    | false =>
      have := of_decide_eq_false h
      exact ident_l_total s (by omega) 1000 0 (by omega) (by omega)

theorem opt_bind {α β : Type} {x : Option α} {f : α → Option β} (hx : ∃ v, x = some v) (hf : ∀ v, ∃ u, f v = some u) : ∃ u, x.bind f = some u := by
  obtain ⟨v, rfl⟩ := hx; exact hf v


theorem ident_len (s : ByteArray) (h : chargenetref01_Valid 1000 s = some true) : s.size ≤ 36 := by
  unfold chargenetref01_Valid at h
  apply Decidable.byContradiction
  intro hn
  have h1 : ((36 : Int) < (s.size : Int)) := by omega
  by_cases h2 : (s.size : Int) < 1
  · simp [h2] at h
  · simp [h2, h1] at h

/-! ### The order of bytes -/
theorem bl_irrefl : ∀ l : List UInt8, Op.bytesLess l l = false
  | [] => rfl
  | a :: l => by simp [Op.bytesLess, bl_irrefl l, UInt8.lt_irrefl]
theorem bl_trans : ∀ a b c : List UInt8, Op.bytesLess a b = true → Op.bytesLess b c = true → Op.bytesLess a c = true
  | _, [], _, h, _ => by cases ‹List UInt8› <;> simp [Op.bytesLess] at h
  | _, _ :: _, [], _, h => by simp [Op.bytesLess] at h
  | [], _ :: _, _ :: _, _, _ => rfl
  | a :: x, b :: y, c :: z, h1, h2 => by
    simp only [Op.bytesLess, Bool.or_eq_true, Bool.and_eq_true, decide_eq_true_eq, beq_iff_eq] at h1 h2 ⊢
    rcases h1 with h1 | ⟨rfl, h1⟩
    · rcases h2 with h2 | ⟨rfl, h2⟩
      · exact .inl (UInt8.lt_trans h1 h2)
      · exact .inl h1
    · rcases h2 with h2 | ⟨rfl, h2⟩
      · exact .inl h2
      · exact .inr ⟨rfl, bl_trans x y z h1 h2⟩
theorem bl_tri : ∀ a b : List UInt8, Op.bytesLess a b = true ∨ a = b ∨ Op.bytesLess b a = true
  | [], [] => .inr (.inl rfl)
  | [], _ :: _ => .inl rfl
  | _ :: _, [] => .inr (.inr rfl)
  | a :: x, b :: y => by
    simp only [Op.bytesLess, Bool.or_eq_true, Bool.and_eq_true, decide_eq_true_eq, beq_iff_eq, List.cons.injEq]
    rcases Nat.lt_trichotomy a.toNat b.toNat with h | h | h
    · exact .inl (.inl h)
    · have hab : a = b := UInt8.toNat_inj.1 h
      rcases bl_tri x y with h2 | h2 | h2
      · exact .inl (.inr ⟨hab, h2⟩)
      · exact .inr (.inl ⟨hab, h2⟩)
      · exact .inr (.inr (.inr ⟨hab.symm, h2⟩))
    · exact .inr (.inr (.inl h))

theorem sEq_iff (a b : ByteArray) : sEq a b = true ↔ a = b := by
  unfold sEq
  rw [beq_iff_eq]
  constructor
  · intro h
    obtain ⟨⟨x⟩⟩ := a
    obtain ⟨⟨y⟩⟩ := b
    simpa using h
  · rintro rfl; rfl
theorem sEq_false (a b : ByteArray) : sEq a b = false ↔ a ≠ b := by
  rw [← Bool.not_eq_true, sEq_iff]
theorem sLt_irrefl (a : ByteArray) : sLt a a = false := bl_irrefl _
theorem sLt_trans {a b c : ByteArray} (h1 : sLt a b = true) (h2 : sLt b c = true) : sLt a c = true := bl_trans _ _ _ h1 h2
theorem sLt_tri (a b : ByteArray) : sLt a b = true ∨ a = b ∨ sLt b a = true := by
  rcases bl_tri a.data.toList b.data.toList with h | h | h
  · exact .inl h
  · refine .inr (.inl ?_)
    obtain ⟨⟨x⟩⟩ := a
    obtain ⟨⟨y⟩⟩ := b
    simpa using h
  · exact .inr (.inr h)
theorem sLt_ne {a b : ByteArray} (h : sLt a b = true) : a ≠ b := by
  rintro rfl
  rw [sLt_irrefl] at h; cases h

/-! ### Equal events, equal lists -/
def eqS (a b : SCurtail) : Bool := sEq a.Name b.Name && (decide (a.Version = b.Version) && (decide (a.Feeder = b.Feeder) && (decide (a.Span_From = b.Span_From) && (decide (a.Span_To = b.Span_To) && (decide (a.Total = b.Total) && ((a.Cancelled == b.Cancelled) && true))))))
theorem eqS_iff (a b : SCurtail) : eqS a b = true ↔ a = b := by
  unfold eqS
  simp only [Bool.and_eq_true, decide_eq_true_eq, sEq_iff, beq_iff_eq, and_true]
  obtain ⟨⟩ := a
  obtain ⟨⟩ := b
  simp
theorem eqS_self (a : SCurtail) : eqS a a = true := (eqS_iff a a).2 rfl

theorem equal_l (a b : List SCurtail) (hl : a.length = b.length) (h2 : a.length ≤ 900) : ∀ (n t : Nat), t ≤ a.length → a.length < n + t → ∃ r, slices_Equal_api_Curtail_api_Curtail_l12 a b n (t : Int) = some r ∧ (r = true ↔ a.drop t = b.drop t)
  | 0, t, h1, h3 => by omega
  | n + 1, t, h1, h3 => by
    simp only [slices_Equal_api_Curtail_api_Curtail_l12, slices_Equal_api_Curtail_api_Curtail_b12]
    by_cases ht : t < a.length
    · have e1 : decide ((t : Int) < (a.length : Int)) = true := by simpa using ht
      have e2 : (0 : Int) ≤ (t : Int) ∧ (t : Int) < (a.length : Int) := by omega
      have e3 : (0 : Int) ≤ (t : Int) ∧ (t : Int) < (b.length : Int) := by omega
      have ht2 : t < b.length := by omega
      rw [e1, cond_true, guard_pos e2, guard_pos e3, getD_nat a _ t ht, getD_nat b _ t ht2, wsucc t (by omega)]
      change ∃ r, (bif xor true (eqS a[t] b[t]) then some false else _) = some r ∧ _
      obtain ⟨r, hr, hri⟩ := equal_l a b hl h2 n (t + 1) (by omega) (by omega)
      rw [hr, List.drop_eq_getElem_cons ht, List.drop_eq_getElem_cons ht2, List.cons.injEq]
      cases hq : eqS a[t] b[t] with
      | true => exact ⟨r, rfl, by rw [hri]; simp [(eqS_iff _ _).1 hq]⟩
      | false =>
        refine ⟨false, rfl, ?_⟩
        have : a[t] ≠ b[t] := by intro h; rw [(eqS_iff _ _).2 h] at hq; cases hq
        simp [this]
    · have e1 : decide ((t : Int) < (a.length : Int)) = false := by simp; omega
      rw [e1, cond_false]
      exact ⟨true, rfl, by rw [List.drop_eq_nil_of_le (by omega), List.drop_eq_nil_of_le (by omega)]; simp⟩

theorem equal_eq (a b : List SCurtail) (h2 : a.length ≤ 900) : ∃ r, slices_Equal_api_Curtail_api_Curtail 1000 a b = some r ∧ (r = true ↔ a = b) := by
  unfold slices_Equal_api_Curtail_api_Curtail
  by_cases hl : a.length = b.length
  · rw [show decide ((a.length : Int) = (b.length : Int)) = true by simp [hl]]
    obtain ⟨r, hr, hri⟩ := equal_l a b hl h2 1000 0 (by omega) (by omega)
    simp only [Int.natCast_zero, List.drop_zero] at hr hri
    exact ⟨r, hr, hri⟩
  · rw [show decide ((a.length : Int) = (b.length : Int)) = false by simp; omega]
    refine ⟨false, rfl, ?_⟩
    constructor
    · intro h; cases h
    · rintro rfl; exact absurd rfl hl
theorem equal_self (a : List SCurtail) (h2 : a.length ≤ 900) : slices_Equal_api_Curtail_api_Curtail 1000 a a = some true := by
  obtain ⟨r, hr, hri⟩ := equal_eq a a h2
  rw [hr, hri.2 rfl]

/-! ### An event is checked -/
structure Ok (c : SCurtail) : Prop where
  feeder : 0 ≤ c.Feeder ∧ c.Feeder < 32
  span : 0 ≤ c.Span_From ∧ c.Span_From ≤ c.Span_To ∧ c.Span_To ≤ 268435456
  total : 0 ≤ c.Total ∧ c.Total ≤ 1073741824

theorem check_eq (c : SCurtail) (n : Int) : curtail_check 1000 c n = chargenetref13_right 1000 c n := by
  unfold curtail_check chargenetref13_right chargenetref13_right_p11
  rw [ident_eq]
  obtain ⟨b, hb⟩ := ident_total c.Name
  rw [hb]
  simp only [Option.bind_some]
  cases b with
  | false => rfl
  | true =>
    simp only [Bool.not_true, cond_false]
    by_cases a1 : c.Version < 1 <;> by_cases a2 : c.Feeder < 0 <;> by_cases a3 : n ≤ c.Feeder <;> simp only [a1, a2, a3, decide_true, decide_false, cond_true, cond_false, Bool.cond_self]
    by_cases a4 : c.Total < 0 <;> by_cases a5 : 1073741824 < c.Total <;> by_cases a6 : c.Span_From < 0 <;> by_cases a7 : c.Span_To < c.Span_From <;> by_cases a8 : 268435456 < c.Span_To <;>
      simp [a4, a5, a6, a7, a8, Int.not_le.2, Int.not_lt.1, Int.not_lt, Int.not_le] <;> (try omega)

theorem check_total (c : SCurtail) (n : Int) : ∃ e, curtail_check 1000 c n = some e := by
  unfold curtail_check
  rw [ident_eq]
  obtain ⟨b, hb⟩ := ident_total c.Name
  rw [hb]
  exact opt_cond (opt_some _) (opt_cond (opt_some _) (opt_cond (opt_some _) (opt_cond (opt_some _) (opt_cond (opt_some _) (opt_cond (opt_some _) (opt_cond (opt_some _) (opt_cond (opt_some _) (opt_cond (opt_some _) (opt_some _)))))))))

theorem check_ok (c : SCurtail) (h : curtail_check 1000 c 32 = some 0) : Ok c := by
  unfold curtail_check at h
  rw [ident_eq] at h
  obtain ⟨b, hb⟩ := ident_total c.Name
  rw [hb] at h
  cases b with
  | false => cases h
  | true =>
    simp only [Option.bind_some, Bool.not_true, cond_false] at h
    by_cases a1 : c.Version < 1 <;> by_cases a2 : c.Feeder < 0 <;> by_cases a3 : 32 ≤ c.Feeder <;> by_cases a4 : c.Total < 0 <;> by_cases a5 : 1073741824 < c.Total <;> by_cases a6 : c.Span_From < 0 <;> by_cases a7 : c.Span_To < c.Span_From <;> by_cases a8 : 268435456 < c.Span_To <;>
      simp [a1, a2, a3, a4, a5, a6, a7, a8] at h
    exact ⟨by omega, by omega, by omega⟩
end Go.Proofs.Ytcccjpkfifefaaa.M
