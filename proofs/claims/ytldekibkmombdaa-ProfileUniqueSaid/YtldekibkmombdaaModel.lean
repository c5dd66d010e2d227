/- Written by a program of ours (wip/eng/gen.py): the plain models of the functions. -/
import Derived.Test.YtldekibkmombdaaEngT
namespace Go.Proofs.Ytldekibkmombdaa.M
open Go Go.Proofs.Ytldekibkmombdaa.E
set_option linter.unusedVariables false
structure SPeriod where
  At : Int
  Limit : Int
def dSPeriod : SPeriod := ⟨0, 0⟩
structure SSpan where
  From : Int
  To : Int
def dSSpan : SSpan := ⟨0, 0⟩
structure SProfile where
  ID : Int
  Level : Int
  Purpose : Int
  Kind : Int
  Conn : Int
  Txn : ByteArray
  Span_From : Int
  Span_To : Int
  Start : Int
  Duration : Int
  Periods : List SPeriod
def dSProfile : SProfile := ⟨0, 0, 0, 0, 0, ByteArray.empty, 0, 0, 0, 0, []⟩
def chargenetlaw15_example (F : Nat)  : Option SProfile :=
  some (SProfile.mk 1 0 2 1 0 ByteArray.empty 0 ((-1)) 100 ((-1)) ([SPeriod.mk 0 4000, SPeriod.mk 60 2000]))
def profile_first (F : Nat) (a0_p : SProfile) (a1_start : Int) : Option Int :=
  bif decide (a0_p.Kind = 4) then (some a1_start) else (some a0_p.Start)
def profile_cycle_p2 (days_1 : Int) : Option Int :=
  some (IntKind.wrap .i64 (days_1 * 1440))
def profile_cycle_p4 (days_3 : Int) : Option Int :=
  profile_cycle_p2 (IntKind.wrap .i64 (days_3 + 1))
def profile_cycle_p5  : Option Int :=
  profile_cycle_p4 (IntKind.wrap .i64 (0 + 6))
def profile_cycle (F : Nat) (a0_kind : Int) : Option Int :=
  bif decide (a0_kind = 3) then (profile_cycle_p5) else (bif decide (a0_kind = 2) then (profile_cycle_p4 0) else (profile_cycle_p2 0))
def profile_gap (F : Nat) (a0_from : Int) (a1_to : Int) : Option Int :=
  some (IntKind.wrap .u64 (IntKind.wrap .u64 a1_to - IntKind.wrap .u64 a0_from))
def profile_origin_p5 (o_4 : Int) : Option (Int × Bool) :=
  some ((o_4, true))
def profile_origin (F : Nat) (a0_p : SProfile) (a1_start : Int) (a2_t : Int) : Option (Int × Bool) :=
  (profile_first F a0_p a1_start).bind fun c_1 => bif decide (a2_t < c_1) then (some ((0, false))) else ((profile_cycle F a0_p.Kind).bind fun c_6 => bif decide (0 < c_6) then ((profile_gap F c_1 a2_t).bind fun c_9 => guard (IntKind.wrap .u64 c_6 ≠ 0) (profile_origin_p5 (IntKind.wrap .i64 (a2_t - IntKind.wrap .i64 (Int.tmod c_9 (IntKind.wrap .u64 c_6)))))) else (profile_origin_p5 c_1))
def profile_Limit_p8 (limit_6 : Int) (found_7 : Bool) : Option (Int × Bool) :=
  some ((limit_6, found_7))
def profile_Limit_p30 (t58_18 : Int) (kl_n_26 : Int → Bool → Int → Option (Int × Bool)) (limit_28 : Int) (found_29 : Bool) : Option (Int × Bool) :=
  kl_n_26 limit_28 found_29 (IntKind.wrap .i64 (t58_18 + 1))
def profile_Limit_b26 (a0_p : SProfile) (c_4 : Int) (kl_n_26 : Int → Bool → Int → Option (Int × Bool)) (limit_16 : Int) (found_17 : Bool) (t58_18 : Int) : Option (Int × Bool) :=
  bif decide (t58_18 < ((a0_p.Periods).length : Int)) then (guard ((0 : Int) ≤ t58_18 ∧ t58_18 < ((a0_p.Periods).length : Int)) (bif decide (0 ≤ (a0_p.Periods.getD t58_18.toNat dSPeriod).At) then (bif decide (IntKind.wrap .u64 ((a0_p.Periods.getD t58_18.toNat dSPeriod).At) ≤ c_4) then (profile_Limit_p30 t58_18 kl_n_26 ((a0_p.Periods.getD t58_18.toNat dSPeriod).Limit) true) else (profile_Limit_p30 t58_18 kl_n_26 limit_16 found_17)) else (profile_Limit_p30 t58_18 kl_n_26 limit_16 found_17))) else (profile_Limit_p8 limit_16 found_17)
def profile_Limit_l26 (a0_p : SProfile) (c_4 : Int) : Nat → Int → Bool → Int → Option (Int × Bool)
  | 0, _, _, _ => none
  | n + 1, limit_16, found_17, t58_18 => profile_Limit_b26 a0_p c_4 (fun limit_16 found_17 t58_18 => profile_Limit_l26 a0_p c_4 n limit_16 found_17 t58_18) limit_16 found_17 t58_18
def profile_Limit_p34 (F : Nat) (a0_p : SProfile) (c_4 : Int) : Option (Int × Bool) :=
  profile_Limit_l26 a0_p c_4 F 0 false 0
def profile_Limit_p37 (F : Nat) (a0_p : SProfile) (a1_start : Int) (a2_t : Int) : Option (Int × Bool) :=
  (profile_origin F a0_p a1_start a2_t).bind fun c_1 => bif (!c_1.2) then (some ((0, false))) else ((profile_gap F c_1.1 a2_t).bind fun c_4 => bif (!decide (a0_p.Duration = (-1))) then (bif decide (IntKind.wrap .u64 a0_p.Duration ≤ c_4) then (some ((0, false))) else (profile_Limit_p34 F a0_p c_4)) else (profile_Limit_p34 F a0_p c_4))
def profile_Limit (F : Nat) (a0_p : SProfile) (a1_start : Int) (a2_t : Int) : Option (Int × Bool) :=
  bif decide (a2_t < a0_p.Span_From) then (some ((0, false))) else (bif (!decide (a0_p.Span_To = (-1))) then (bif decide (a0_p.Span_To ≤ a2_t) then (some ((0, false))) else (profile_Limit_p37 F a0_p a1_start a2_t)) else (profile_Limit_p37 F a0_p a1_start a2_t))
def profile_numbers (F : Nat) (a0_p : SProfile) : Option Bool :=
  bif decide (1 ≤ a0_p.ID) then (bif decide (a0_p.ID ≤ 2147483647) then (bif decide (0 ≤ a0_p.Level) then (bif decide (a0_p.Level ≤ 8) then (bif decide (1 ≤ a0_p.Purpose) then (bif decide (a0_p.Purpose ≤ 3) then (bif decide (1 ≤ a0_p.Kind) then (bif decide (a0_p.Kind ≤ 4) then (bif decide (0 ≤ a0_p.Conn) then (some (decide (a0_p.Conn ≤ 32))) else (some false)) else (some false)) else (some false)) else (some false)) else (some false)) else (some false)) else (some false)) else (some false)) else (some false)
def ident_value_p1  : Option Int :=
  some ((-1))
def ident_value_p8 (a0_r : Int) (t13_4 : Bool) : Option Int :=
  bif t13_4 then (some (IntKind.wrap .i64 (IntKind.wrap .i64 (IntKind.wrap .i32 (a0_r - 65)) + 10))) else (bif decide (97 ≤ a0_r) then (bif decide (a0_r ≤ 122) then (some (IntKind.wrap .i64 (IntKind.wrap .i64 (IntKind.wrap .i32 (a0_r - 97)) + 10))) else (ident_value_p1)) else (ident_value_p1))
def ident_value_p10 (a0_r : Int) (t3_2 : Bool) : Option Int :=
  bif t3_2 then (some (IntKind.wrap .i64 (IntKind.wrap .i32 (a0_r - 48)))) else (bif decide (65 ≤ a0_r) then (ident_value_p8 a0_r (decide (a0_r ≤ 90))) else (ident_value_p8 a0_r false))
def ident_value (F : Nat) (a0_r : Int) : Option Int :=
  bif decide (48 ≤ a0_r) then (ident_value_p10 a0_r (decide (a0_r ≤ 57))) else (ident_value_p10 a0_r false)
def ident_Valid_p3  : Option Bool :=
  some true
def ident_Valid_p36 (F : Nat) (a0_s : ByteArray) (pos_17 : Nat) (kl_n_29 : Nat → Option Bool) (t19_31 : Bool) : Option Bool :=
  bif t19_31 then (kl_n_29 (pos_17 + (Utf8.decode a0_s pos_17).2)) else ((ident_value F (((Utf8.decode a0_s pos_17).1 : Int))).bind fun c_33 => bif decide (c_33 < 0) then (some false) else (kl_n_29 (pos_17 + (Utf8.decode a0_s pos_17).2)))
def ident_Valid_b29 (F : Nat) (a0_s : ByteArray) (kl_n_29 : Nat → Option Bool) (pos_17 : Nat) : Option Bool :=
  bif decide (pos_17 < a0_s.size) then (bif decide (((Utf8.decode a0_s pos_17).1 : Int) = 45) then (ident_Valid_p36 F a0_s pos_17 kl_n_29 (decide (((Utf8.decode a0_s pos_17).1 : Int) = 45))) else (bif decide (((Utf8.decode a0_s pos_17).1 : Int) = 95) then (ident_Valid_p36 F a0_s pos_17 kl_n_29 (decide (((Utf8.decode a0_s pos_17).1 : Int) = 95))) else (bif decide (((Utf8.decode a0_s pos_17).1 : Int) = 46) then (ident_Valid_p36 F a0_s pos_17 kl_n_29 (decide (((Utf8.decode a0_s pos_17).1 : Int) = 46))) else (bif decide (((Utf8.decode a0_s pos_17).1 : Int) = 58) then (ident_Valid_p36 F a0_s pos_17 kl_n_29 (decide (((Utf8.decode a0_s pos_17).1 : Int) = 58))) else (ident_Valid_p36 F a0_s pos_17 kl_n_29 (decide (((Utf8.decode a0_s pos_17).1 : Int) = 42))))))) else (ident_Valid_p3)
def ident_Valid_l29 (F : Nat) (a0_s : ByteArray) : Nat → Nat → Option Bool
  | 0, _ => none
  | n + 1, pos_17 => ident_Valid_b29 F a0_s (fun pos_17 => ident_Valid_l29 F a0_s n pos_17) pos_17
def ident_Valid (F : Nat) (a0_s : ByteArray) : Option Bool :=
  bif decide ((a0_s.size : Int) < 1) then (some false) else (bif decide (36 < (a0_s.size : Int)) then (some false) else (ident_Valid_l29 F a0_s F 0))
def profile_times_p5 (a0_p : SProfile) : Option Bool :=
  bif decide (a0_p.Duration = (-1)) then (some true) else (bif decide (1 ≤ a0_p.Duration) then (some (decide (a0_p.Duration ≤ 268435456))) else (some false))
def profile_times_p10 (a0_p : SProfile) : Option Bool :=
  bif decide (a0_p.Start < 0) then (some false) else (bif decide (268435456 < a0_p.Start) then (some false) else (bif decide (a0_p.Kind = 4) then (bif (!decide (a0_p.Start = 0)) then (some false) else (profile_times_p5 a0_p)) else (profile_times_p5 a0_p)))
def profile_times (F : Nat) (a0_p : SProfile) : Option Bool :=
  bif decide (a0_p.Span_From < 0) then (some false) else (bif decide (268435456 < a0_p.Span_From) then (some false) else (bif (!decide (a0_p.Span_To = (-1))) then (bif decide (a0_p.Span_To < a0_p.Span_From) then (some false) else (bif decide (268435456 < a0_p.Span_To) then (some false) else (profile_times_p10 a0_p))) else (profile_times_p10 a0_p)))
def profile_periods_p2  : Option Int :=
  some 0
def profile_periods_p33 (a0_p : SProfile) (t17_15 : Int) (kl_n_28 : Int → Option Int) : Option Int :=
  bif decide ((a0_p.Periods.getD t17_15.toNat dSPeriod).Limit < 0) then (some 2) else (bif decide (1048576 < (a0_p.Periods.getD t17_15.toNat dSPeriod).Limit) then (some 2) else (kl_n_28 (IntKind.wrap .i64 (t17_15 + 1))))
def profile_periods_p38 (a0_p : SProfile) (greatest_1 : Int) (t17_15 : Int) (kl_n_28 : Int → Option Int) : Option Int :=
  bif decide (0 < t17_15) then (guard ((0 : Int) ≤ IntKind.wrap .i64 (t17_15 - 1) ∧ IntKind.wrap .i64 (t17_15 - 1) < ((a0_p.Periods).length : Int)) (bif decide ((a0_p.Periods.getD t17_15.toNat dSPeriod).At ≤ (a0_p.Periods.getD (IntKind.wrap .i64 (t17_15 - 1)).toNat dSPeriod).At) then (some 1) else (bif decide (greatest_1 < (a0_p.Periods.getD t17_15.toNat dSPeriod).At) then (some 1) else (profile_periods_p33 a0_p t17_15 kl_n_28)))) else (profile_periods_p33 a0_p t17_15 kl_n_28)
def profile_periods_b28 (a0_p : SProfile) (greatest_1 : Int) (kl_n_28 : Int → Option Int) (t17_15 : Int) : Option Int :=
  bif decide (t17_15 < ((a0_p.Periods).length : Int)) then (guard ((0 : Int) ≤ t17_15 ∧ t17_15 < ((a0_p.Periods).length : Int)) (bif decide (t17_15 = 0) then (bif (!decide ((a0_p.Periods.getD t17_15.toNat dSPeriod).At = 0)) then (some 1) else (profile_periods_p38 a0_p greatest_1 t17_15 kl_n_28)) else (profile_periods_p38 a0_p greatest_1 t17_15 kl_n_28))) else (profile_periods_p2)
def profile_periods_l28 (a0_p : SProfile) (greatest_1 : Int) : Nat → Int → Option Int
  | 0, _ => none
  | n + 1, t17_15 => profile_periods_b28 a0_p greatest_1 (fun t17_15 => profile_periods_l28 a0_p greatest_1 n t17_15) t17_15
def profile_periods_p41 (F : Nat) (a0_p : SProfile) (greatest_1 : Int) : Option Int :=
  profile_periods_l28 a0_p greatest_1 F 0
def profile_periods (F : Nat) (a0_p : SProfile) : Option Int :=
  (profile_cycle F a0_p.Kind).bind fun c_42 => bif decide (0 < c_42) then (profile_periods_p41 F a0_p (IntKind.wrap .i64 (c_42 - 1))) else (profile_periods_p41 F a0_p 268435456)
def profile_Valid_p11 (F : Nat) (a0_p : SProfile) : Option Int :=
  (profile_times F a0_p).bind fun c_4 => bif (!c_4) then (some 2) else (bif decide (24 < ((a0_p.Periods).length : Int)) then (some 3) else (bif decide (((a0_p.Periods).length : Int) = 0) then (some 1) else ((profile_periods F a0_p).bind fun c_9 => some c_9)))
def profile_Valid_p14 (F : Nat) (a0_p : SProfile) : Option Int :=
  bif decide (a0_p.Purpose = 1) then (bif decide (a0_p.Kind = 4) then (some 1) else (profile_Valid_p11 F a0_p)) else (profile_Valid_p11 F a0_p)
def profile_Valid_p17 (F : Nat) (a0_p : SProfile) : Option Int :=
  bif decide (a0_p.Purpose = 3) then (bif decide (a0_p.Conn = 0) then (some 1) else (profile_Valid_p14 F a0_p)) else (profile_Valid_p14 F a0_p)
def profile_Valid_p20 (F : Nat) (a0_p : SProfile) : Option Int :=
  bif (!decide (a0_p.Purpose = 3)) then (bif (!(sEq a0_p.Txn ByteArray.empty)) then (some 4) else (profile_Valid_p17 F a0_p)) else (profile_Valid_p17 F a0_p)
def profile_Valid (F : Nat) (a0_p : SProfile) : Option Int :=
  (profile_numbers F a0_p).bind fun c_1 => bif (!c_1) then (some 2) else (bif decide (a0_p.Purpose = 3) then ((ident_Valid F a0_p.Txn).bind fun c_22 => bif (!c_22) then (some 4) else (profile_Valid_p20 F a0_p)) else (profile_Valid_p20 F a0_p))
def slices_Clone_api_Period_api_Period (F : Nat) (a0_s : List SPeriod) : Option (List SPeriod) :=
  guard (((([] : List SPeriod)).length + (a0_s).length) * 16 ≤ 140737488355328 ∧ (([] : List SPeriod)).length + (a0_s).length ≤ 140737488355328) (some ((([] : List SPeriod)) ++ a0_s))
def profile_clone (F : Nat) (a0_p : SProfile) : Option SProfile :=
  (slices_Clone_api_Period_api_Period F a0_p.Periods).bind fun c_1 => some (SProfile.mk a0_p.ID a0_p.Level a0_p.Purpose a0_p.Kind a0_p.Conn a0_p.Txn a0_p.Span_From a0_p.Span_To a0_p.Start a0_p.Duration c_1)
def profile_Put_p9 (F : Nat) (a0_l : List SProfile) (a1_p : SProfile) (o1_4 : List SProfile) : Option ((List SProfile) × Int) :=
  bif decide (16 ≤ ((o1_4).length : Int)) then (some ((a0_l, 3))) else ((profile_clone F a1_p).bind fun c_6 => guard (((o1_4).length + ([c_6]).length) * 112 ≤ 140737488355328 ∧ (o1_4).length + ([c_6]).length ≤ 140737488355328) (some ((o1_4 ++ ([c_6]), 0))))
def profile_Put_p41 (t18_23 : Int) (kl_n_38 : Int → (List SProfile) → Option ((List SProfile) × Int)) (o1_40 : List SProfile) : Option ((List SProfile) × Int) :=
  kl_n_38 (IntKind.wrap .i64 (t18_23 + 1)) o1_40
def profile_Put_p47 (F : Nat) (a0_l : List SProfile) (t18_23 : Int) (o1_24 : List SProfile) (kl_n_38 : Int → (List SProfile) → Option ((List SProfile) × Int)) : Option ((List SProfile) × Int) :=
  (profile_clone F (a0_l.getD t18_23.toNat dSProfile)).bind fun c_44 => guard (((o1_24).length + ([c_44]).length) * 112 ≤ 140737488355328 ∧ (o1_24).length + ([c_44]).length ≤ 140737488355328) (profile_Put_p41 t18_23 kl_n_38 (o1_24 ++ ([c_44])))
def profile_Put_b38 (F : Nat) (a0_l : List SProfile) (a1_p : SProfile) (kl_n_38 : Int → (List SProfile) → Option ((List SProfile) × Int)) (t18_23 : Int) (o1_24 : List SProfile) : Option ((List SProfile) × Int) :=
  bif decide (t18_23 < ((a0_l).length : Int)) then (guard ((0 : Int) ≤ t18_23 ∧ t18_23 < ((a0_l).length : Int)) (bif decide ((a0_l.getD t18_23.toNat dSProfile).ID = a1_p.ID) then (profile_Put_p41 t18_23 kl_n_38 o1_24) else (bif decide ((a0_l.getD t18_23.toNat dSProfile).Purpose = a1_p.Purpose) then (bif decide ((a0_l.getD t18_23.toNat dSProfile).Level = a1_p.Level) then (bif decide ((a0_l.getD t18_23.toNat dSProfile).Conn = a1_p.Conn) then (bif sEq ((a0_l.getD t18_23.toNat dSProfile).Txn) a1_p.Txn then (profile_Put_p41 t18_23 kl_n_38 o1_24) else (profile_Put_p47 F a0_l t18_23 o1_24 kl_n_38)) else (profile_Put_p47 F a0_l t18_23 o1_24 kl_n_38)) else (profile_Put_p47 F a0_l t18_23 o1_24 kl_n_38)) else (profile_Put_p47 F a0_l t18_23 o1_24 kl_n_38)))) else (profile_Put_p9 F a0_l a1_p o1_24)
def profile_Put_l38 (F : Nat) (a0_l : List SProfile) (a1_p : SProfile) : Nat → Int → (List SProfile) → Option ((List SProfile) × Int)
  | 0, _, _ => none
  | n + 1, t18_23, o1_24 => profile_Put_b38 F a0_l a1_p (fun t18_23 o1_24 => profile_Put_l38 F a0_l a1_p n t18_23 o1_24) t18_23 o1_24
def profile_Put (F : Nat) (a0_l : List SProfile) (a1_p : SProfile) : Option ((List SProfile) × Int) :=
  (profile_Valid F a1_p).bind fun c_1 => bif (!decide (c_1 = 0)) then (some ((a0_l, c_1))) else (profile_Put_l38 F a0_l a1_p F 0 (([] : List SProfile)))
def chargenetref15_slot (F : Nat) (a0_a : SProfile) (a1_b : SProfile) : Option Bool :=
  bif decide (a0_a.Purpose = a1_b.Purpose) then (bif decide (a0_a.Level = a1_b.Level) then (bif decide (a0_a.Conn = a1_b.Conn) then (some (sEq a0_a.Txn a1_b.Txn)) else (some false)) else (some false)) else (some false)
def chargenetref15_Same_p10  : Option Bool :=
  some true
def chargenetref15_Same_b20 (a0_a : SProfile) (a1_b : SProfile) (kl_n_20 : Int → Option Bool) (i_15 : Int) : Option Bool :=
  bif decide (i_15 < ((a0_a.Periods).length : Int)) then (guard ((0 : Int) ≤ i_15 ∧ i_15 < ((a0_a.Periods).length : Int)) (guard ((0 : Int) ≤ i_15 ∧ i_15 < ((a1_b.Periods).length : Int)) (bif (xor true (decide ((a0_a.Periods.getD i_15.toNat dSPeriod).At = (a1_b.Periods.getD i_15.toNat dSPeriod).At) && (decide ((a0_a.Periods.getD i_15.toNat dSPeriod).Limit = (a1_b.Periods.getD i_15.toNat dSPeriod).Limit) && true))) then (some false) else (kl_n_20 (IntKind.wrap .i64 (i_15 + 1)))))) else (chargenetref15_Same_p10)
def chargenetref15_Same_l20 (a0_a : SProfile) (a1_b : SProfile) : Nat → Int → Option Bool
  | 0, _ => none
  | n + 1, i_15 => chargenetref15_Same_b20 a0_a a1_b (fun i_15 => chargenetref15_Same_l20 a0_a a1_b n i_15) i_15
def chargenetref15_Same (F : Nat) (a0_a : SProfile) (a1_b : SProfile) : Option Bool :=
  bif (!decide (a0_a.ID = a1_b.ID)) then (some false) else (bif (!decide (a0_a.Kind = a1_b.Kind)) then (some false) else ((chargenetref15_slot F a0_a a1_b).bind fun c_3 => bif (!c_3) then (some false) else (bif (xor true (decide (a0_a.Span_From = a1_b.Span_From) && (decide (a0_a.Span_To = a1_b.Span_To) && true))) then (some false) else (bif (!decide (a0_a.Start = a1_b.Start)) then (some false) else (bif (!decide (a0_a.Duration = a1_b.Duration)) then (some false) else (bif (!decide (((a0_a.Periods).length : Int) = ((a1_b.Periods).length : Int))) then (some false) else (chargenetref15_Same_l20 a0_a a1_b F 0)))))))
def chargenetref15_SameAll_p2  : Option Bool :=
  some true
def chargenetref15_SameAll_b16 (F : Nat) (a0_a : List SProfile) (a1_b : List SProfile) (kl_n_16 : Int → Option Bool) (i_9 : Int) : Option Bool :=
  bif decide (i_9 < ((a0_a).length : Int)) then (guard ((0 : Int) ≤ i_9 ∧ i_9 < ((a0_a).length : Int)) (guard ((0 : Int) ≤ i_9 ∧ i_9 < ((a1_b).length : Int)) ((chargenetref15_Same F (a0_a.getD i_9.toNat dSProfile) (a1_b.getD i_9.toNat dSProfile)).bind fun c_20 => bif (!c_20) then (some false) else (kl_n_16 (IntKind.wrap .i64 (i_9 + 1)))))) else (chargenetref15_SameAll_p2)
def chargenetref15_SameAll_l16 (F : Nat) (a0_a : List SProfile) (a1_b : List SProfile) : Nat → Int → Option Bool
  | 0, _ => none
  | n + 1, i_9 => chargenetref15_SameAll_b16 F a0_a a1_b (fun i_9 => chargenetref15_SameAll_l16 F a0_a a1_b n i_9) i_9
def chargenetref15_SameAll (F : Nat) (a0_a : List SProfile) (a1_b : List SProfile) : Option Bool :=
  bif (!decide (((a0_a).length : Int) = ((a1_b).length : Int))) then (some false) else (chargenetref15_SameAll_l16 F a0_a a1_b F 0)
def slices_Sort_int_int (F : Nat) (a0_x : List Int) : Option (List Int) :=
  guard (a0_x.length < 4611686018427387904) (some (sortI a0_x))
def profile_changes_p7 (F : Nat) (o0_3 : List Int) : Option (List Int) :=
  (slices_Sort_int_int F o0_3).bind fun c_4 => guard (c_4.length = o0_3.length) (some c_4)
def profile_changes_p68 (t37_37 : Int) (kl_n_64 : Int → Int → (List Int) → Option (List Int)) (o_66 : Int) (o1_67 : List Int) : Option (List Int) :=
  kl_n_64 o_66 (IntKind.wrap .i64 (t37_37 + 1)) o1_67
def profile_changes_p74 (F : Nat) (a0_p : SProfile) (o_36 : Int) (t37_37 : Int) (kl_n_64 : Int → Int → (List Int) → Option (List Int)) (o1_71 : List Int) : Option (List Int) :=
  (profile_cycle F a0_p.Kind).bind fun c_72 => profile_changes_p68 t37_37 kl_n_64 (IntKind.wrap .i64 (o_36 + c_72)) o1_71
def profile_changes_b83 (F : Nat) (a0_p : SProfile) (o_36 : Int) (t37_37 : Int) (kl_n_64 : Int → Int → (List Int) → Option (List Int)) (kl_n_83 : Int → (List Int) → Option (List Int)) (t56_78 : Int) (o1_79 : List Int) : Option (List Int) :=
  bif decide (t56_78 < ((a0_p.Periods).length : Int)) then (guard ((0 : Int) ≤ t56_78 ∧ t56_78 < ((a0_p.Periods).length : Int)) (guard (((o1_79).length + ([IntKind.wrap .i64 (o_36 + (a0_p.Periods.getD t56_78.toNat dSPeriod).At)]).length) * 8 ≤ 140737488355328 ∧ (o1_79).length + ([IntKind.wrap .i64 (o_36 + (a0_p.Periods.getD t56_78.toNat dSPeriod).At)]).length ≤ 140737488355328) (kl_n_83 (IntKind.wrap .i64 (t56_78 + 1)) (o1_79 ++ ([IntKind.wrap .i64 (o_36 + (a0_p.Periods.getD t56_78.toNat dSPeriod).At)]))))) else (profile_changes_p74 F a0_p o_36 t37_37 kl_n_64 o1_79)
def profile_changes_l83 (F : Nat) (a0_p : SProfile) (o_36 : Int) (t37_37 : Int) (kl_n_64 : Int → Int → (List Int) → Option (List Int)) : Nat → Int → (List Int) → Option (List Int)
  | 0, _, _ => none
  | n + 1, t56_78, o1_79 => profile_changes_b83 F a0_p o_36 t37_37 kl_n_64 (fun t56_78 o1_79 => profile_changes_l83 F a0_p o_36 t37_37 kl_n_64 n t56_78 o1_79) t56_78 o1_79
def profile_changes_p87 (F : Nat) (a0_p : SProfile) (o_36 : Int) (t37_37 : Int) (kl_n_64 : Int → Int → (List Int) → Option (List Int)) (o1_70 : List Int) : Option (List Int) :=
  profile_changes_l83 F a0_p o_36 t37_37 kl_n_64 F 0 o1_70
def profile_changes_b64 (F : Nat) (a0_p : SProfile) (kl_n_64 : Int → Int → (List Int) → Option (List Int)) (o_36 : Int) (t37_37 : Int) (o1_38 : List Int) : Option (List Int) :=
  bif decide (t37_37 < 2) then (guard (((o1_38).length + ([o_36]).length) * 8 ≤ 140737488355328 ∧ (o1_38).length + ([o_36]).length ≤ 140737488355328) (bif decide (0 < a0_p.Duration) then (guard (((o1_38 ++ ([o_36])).length + ([IntKind.wrap .i64 (o_36 + a0_p.Duration)]).length) * 8 ≤ 140737488355328 ∧ (o1_38 ++ ([o_36])).length + ([IntKind.wrap .i64 (o_36 + a0_p.Duration)]).length ≤ 140737488355328) (profile_changes_p87 F a0_p o_36 t37_37 kl_n_64 ((o1_38 ++ ([o_36])) ++ ([IntKind.wrap .i64 (o_36 + a0_p.Duration)])))) else (profile_changes_p87 F a0_p o_36 t37_37 kl_n_64 (o1_38 ++ ([o_36]))))) else (profile_changes_p7 F o1_38)
def profile_changes_l64 (F : Nat) (a0_p : SProfile) : Nat → Int → Int → (List Int) → Option (List Int)
  | 0, _, _, _ => none
  | n + 1, o_36, t37_37, o1_38 => profile_changes_b64 F a0_p (fun o_36 t37_37 o1_38 => profile_changes_l64 F a0_p n o_36 t37_37 o1_38) o_36 t37_37 o1_38
def profile_changes (F : Nat) (a0_p : SProfile) (a1_start : Int) (a2_t : Int) : Option (List Int) :=
  (profile_first F a0_p a1_start).bind fun c_1 => bif decide (c_1 ≤ 268435456) then ((profile_origin F a0_p a1_start ((if (if a2_t < a0_p.Span_From then a0_p.Span_From else a2_t) < c_1 then c_1 else (if a2_t < a0_p.Span_From then a0_p.Span_From else a2_t)))).bind fun c_9 => profile_changes_l64 F a0_p F c_9.1 0 ([a0_p.Span_From, a0_p.Span_To])) else (profile_changes_p7 F ([a0_p.Span_From, a0_p.Span_To]))
def profile_Next_p4  : Option Int :=
  some ((-1))
def profile_Next_p32 (t30_18 : Int) (kl_n_30 : Int → Option Int) : Option Int :=
  kl_n_30 (IntKind.wrap .i64 (t30_18 + 1))
def profile_Next_b30 (F : Nat) (a0_p : SProfile) (a1_start : Int) (a2_t : Int) (c_5 : List Int) (kl_n_30 : Int → Option Int) (t30_18 : Int) : Option Int :=
  bif decide (t30_18 < ((c_5).length : Int)) then (guard ((0 : Int) ≤ t30_18 ∧ t30_18 < ((c_5).length : Int)) (bif decide (c_5.getD t30_18.toNat 0 ≤ a2_t) then (profile_Next_p32 t30_18 kl_n_30) else (bif decide (268435456 < c_5.getD t30_18.toNat 0) then (profile_Next_p32 t30_18 kl_n_30) else ((profile_Limit F a0_p a1_start (IntKind.wrap .i64 (c_5.getD t30_18.toNat 0 - 1))).bind fun c_36 => (profile_Limit F a0_p a1_start (c_5.getD t30_18.toNat 0)).bind fun c_38 => bif (!decide (c_36.1 = c_38.1)) then (some (c_5.getD t30_18.toNat 0)) else (bif (!(c_36.2 == c_38.2)) then (some (c_5.getD t30_18.toNat 0)) else (profile_Next_p32 t30_18 kl_n_30)))))) else (profile_Next_p4)
def profile_Next_l30 (F : Nat) (a0_p : SProfile) (a1_start : Int) (a2_t : Int) (c_5 : List Int) : Nat → Int → Option Int
  | 0, _ => none
  | n + 1, t30_18 => profile_Next_b30 F a0_p a1_start a2_t c_5 (fun t30_18 => profile_Next_l30 F a0_p a1_start a2_t c_5 n t30_18) t30_18
def profile_Next (F : Nat) (a0_p : SProfile) (a1_start : Int) (a2_t : Int) : Option Int :=
  bif decide (a2_t < 0) then (some ((-1))) else (bif decide (268435456 < a2_t) then (some ((-1))) else (bif decide (24 < ((a0_p.Periods).length : Int)) then (some ((-1))) else ((profile_changes F a0_p a1_start a2_t).bind fun c_5 => profile_Next_l30 F a0_p a1_start a2_t c_5 F 0)))
def profile_Clear_p3 (a0_l : List SProfile) (o0_1 : List SProfile) : Option ((List SProfile) × Int) :=
  bif decide (((o0_1).length : Int) = ((a0_l).length : Int)) then (some ((a0_l, 8))) else (some ((o0_1, 0)))
def profile_Clear_p25 (t11_12 : Int) (kl_n_22 : Int → (List SProfile) → Option ((List SProfile) × Int)) (o0_24 : List SProfile) : Option ((List SProfile) × Int) :=
  kl_n_22 (IntKind.wrap .i64 (t11_12 + 1)) o0_24
def profile_Clear_b22 (F : Nat) (a0_l : List SProfile) (a1_id : Int) (kl_n_22 : Int → (List SProfile) → Option ((List SProfile) × Int)) (t11_12 : Int) (o0_13 : List SProfile) : Option ((List SProfile) × Int) :=
  bif decide (t11_12 < ((a0_l).length : Int)) then (guard ((0 : Int) ≤ t11_12 ∧ t11_12 < ((a0_l).length : Int)) (bif (!decide ((a0_l.getD t11_12.toNat dSProfile).ID = a1_id)) then ((profile_clone F (a0_l.getD t11_12.toNat dSProfile)).bind fun c_28 => guard (((o0_13).length + ([c_28]).length) * 112 ≤ 140737488355328 ∧ (o0_13).length + ([c_28]).length ≤ 140737488355328) (profile_Clear_p25 t11_12 kl_n_22 (o0_13 ++ ([c_28])))) else (profile_Clear_p25 t11_12 kl_n_22 o0_13))) else (profile_Clear_p3 a0_l o0_13)
def profile_Clear_l22 (F : Nat) (a0_l : List SProfile) (a1_id : Int) : Nat → Int → (List SProfile) → Option ((List SProfile) × Int)
  | 0, _, _ => none
  | n + 1, t11_12, o0_13 => profile_Clear_b22 F a0_l a1_id (fun t11_12 o0_13 => profile_Clear_l22 F a0_l a1_id n t11_12 o0_13) t11_12 o0_13
def profile_Clear (F : Nat) (a0_l : List SProfile) (a1_id : Int) : Option ((List SProfile) × Int) :=
  profile_Clear_l22 F a0_l a1_id F 0 (([] : List SProfile))
def chargenetlaw15_awake (F : Nat)  : Option Bool :=
  (chargenetlaw15_example F).bind fun c_1 => (profile_Limit F (SProfile.mk c_1.ID c_1.Level c_1.Purpose c_1.Kind c_1.Conn c_1.Txn c_1.Span_From c_1.Span_To c_1.Start c_1.Duration c_1.Periods) 0 99).bind fun c_3 => (profile_Limit F (SProfile.mk c_1.ID c_1.Level c_1.Purpose c_1.Kind c_1.Conn c_1.Txn c_1.Span_From c_1.Span_To c_1.Start c_1.Duration c_1.Periods) 0 160).bind fun c_5 => (profile_Put F ([SProfile.mk 2 0 2 0 0 ByteArray.empty 0 0 0 0 (([] : List SPeriod))]) (SProfile.mk c_1.ID c_1.Level c_1.Purpose c_1.Kind c_1.Conn c_1.Txn c_1.Span_From c_1.Span_To c_1.Start c_1.Duration c_1.Periods)).bind fun c_7 => bif (!decide (c_3.1 = 0)) then (some false) else (bif c_3.2 then (some false) else (bif (!decide (c_5.1 = 2000)) then (some false) else (bif (!c_5.2) then (some false) else ((chargenetref15_SameAll F c_7.1 ([SProfile.mk c_1.ID c_1.Level c_1.Purpose c_1.Kind c_1.Conn c_1.Txn c_1.Span_From c_1.Span_To c_1.Start c_1.Duration c_1.Periods])).bind fun c_13 => bif (!c_13) then (some false) else (bif (!decide (c_7.2 = 0)) then (some false) else ((profile_Next F (SProfile.mk c_1.ID c_1.Level c_1.Purpose c_1.Kind c_1.Conn c_1.Txn c_1.Span_From c_1.Span_To c_1.Start c_1.Duration c_1.Periods) 0 100).bind fun c_17 => bif (!decide (c_17 = 160)) then (some false) else ((profile_Limit F (SProfile.mk c_1.ID c_1.Level c_1.Purpose 2 c_1.Conn c_1.Txn c_1.Span_From c_1.Span_To c_1.Start c_1.Duration c_1.Periods) 0 1540).bind fun c_20 => (profile_Clear F c_7.1 7).bind fun c_22 => bif decide (c_20.1 = 4000) then (bif c_20.2 then ((profile_Next F (SProfile.mk c_1.ID c_1.Level c_1.Purpose 2 c_1.Conn c_1.Txn c_1.Span_From c_1.Span_To c_1.Start c_1.Duration c_1.Periods) 0 160).bind fun c_26 => bif decide (c_26 = 1540) then (bif decide (c_22.2 = 8) then ((profile_Valid F (SProfile.mk 0 0 0 0 0 ByteArray.empty 0 0 0 0 (([] : List SPeriod)))).bind fun c_30 => bif decide (c_30 = 2) then ((profile_Valid F (SProfile.mk c_1.ID c_1.Level c_1.Purpose 2 c_1.Conn c_1.Txn c_1.Span_From c_1.Span_To c_1.Start c_1.Duration c_1.Periods)).bind fun c_33 => some (decide (c_33 = 0))) else (some false)) else (some false)) else (some false)) else (some false)) else (some false))))))))
def chargenetref15_first (F : Nat) (a0_p : SProfile) : Option Bool :=
  bif decide (1 ≤ a0_p.ID) then (bif decide (a0_p.ID ≤ 2147483647) then (bif decide (0 ≤ a0_p.Level) then (bif decide (a0_p.Level ≤ 8) then (bif decide (1 ≤ a0_p.Purpose) then (bif decide (a0_p.Purpose ≤ 3) then (bif decide (1 ≤ a0_p.Kind) then (bif decide (a0_p.Kind ≤ 4) then (bif decide (0 ≤ a0_p.Conn) then (some (decide (a0_p.Conn ≤ 32))) else (some false)) else (some false)) else (some false)) else (some false)) else (some false)) else (some false)) else (some false)) else (some false)) else (some false)
def chargenetref01_Capital_p1 (a0_c : Int) : Option Int :=
  some a0_c
def chargenetref01_Capital (F : Nat) (a0_c : Int) : Option Int :=
  bif decide (97 ≤ a0_c) then (bif decide (a0_c ≤ 122) then (some (IntKind.wrap .u8 (a0_c - 32))) else (chargenetref01_Capital_p1 a0_c)) else (chargenetref01_Capital_p1 a0_c)
def chargenetref01_Value_p1  : Option Int :=
  some ((-1))
def chargenetref01_Value_b13 (F : Nat) (a0_c : Int) (kl_n_13 : Int → Option Int) (v_7 : Int) : Option Int :=
  bif decide (v_7 < 36) then (guard ((0 : Int) ≤ v_7 ∧ v_7 < ((ByteArray.mk #[48, 49, 50, 51, 52, 53, 54, 55, 56, 57, 65, 66, 67, 68, 69, 70, 71, 72, 73, 74, 75, 76, 77, 78, 79, 80, 81, 82, 83, 84, 85, 86, 87, 88, 89, 90]).size : Int)) ((chargenetref01_Capital F a0_c).bind fun c_16 => bif decide (sGet (ByteArray.mk #[48, 49, 50, 51, 52, 53, 54, 55, 56, 57, 65, 66, 67, 68, 69, 70, 71, 72, 73, 74, 75, 76, 77, 78, 79, 80, 81, 82, 83, 84, 85, 86, 87, 88, 89, 90]) v_7.toNat = c_16) then (some v_7) else (kl_n_13 (IntKind.wrap .i64 (v_7 + 1))))) else (chargenetref01_Value_p1)
def chargenetref01_Value_l13 (F : Nat) (a0_c : Int) : Nat → Int → Option Int
  | 0, _ => none
  | n + 1, v_7 => chargenetref01_Value_b13 F a0_c (fun v_7 => chargenetref01_Value_l13 F a0_c n v_7) v_7
def chargenetref01_Value (F : Nat) (a0_c : Int) : Option Int :=
  chargenetref01_Value_l13 F a0_c F 0
def chargenetref01_Valid_p3  : Option Bool :=
  some true
def chargenetref01_Valid_p29 (i_15 : Int) (kl_n_27 : Int → Option Bool) : Option Bool :=
  kl_n_27 (IntKind.wrap .i64 (i_15 + 1))
def chargenetref01_Valid_b27 (F : Nat) (a0_s : ByteArray) (kl_n_27 : Int → Option Bool) (i_15 : Int) : Option Bool :=
  bif decide (i_15 < (a0_s.size : Int)) then (guard ((0 : Int) ≤ i_15 ∧ i_15 < (a0_s.size : Int)) ((chargenetref01_Value F (sGet a0_s i_15.toNat)).bind fun c_31 => bif decide (c_31 < 0) then (bif (!decide (sGet a0_s i_15.toNat = 45)) then (bif (!decide (sGet a0_s i_15.toNat = 95)) then (bif (!decide (sGet a0_s i_15.toNat = 46)) then (bif (!decide (sGet a0_s i_15.toNat = 58)) then (bif (!decide (sGet a0_s i_15.toNat = 42)) then (some false) else (chargenetref01_Valid_p29 i_15 kl_n_27)) else (chargenetref01_Valid_p29 i_15 kl_n_27)) else (chargenetref01_Valid_p29 i_15 kl_n_27)) else (chargenetref01_Valid_p29 i_15 kl_n_27)) else (chargenetref01_Valid_p29 i_15 kl_n_27)) else (chargenetref01_Valid_p29 i_15 kl_n_27))) else (chargenetref01_Valid_p3)
def chargenetref01_Valid_l27 (F : Nat) (a0_s : ByteArray) : Nat → Int → Option Bool
  | 0, _ => none
  | n + 1, i_15 => chargenetref01_Valid_b27 F a0_s (fun i_15 => chargenetref01_Valid_l27 F a0_s n i_15) i_15
def chargenetref01_Valid (F : Nat) (a0_s : ByteArray) : Option Bool :=
  bif decide ((a0_s.size : Int) < 1) then (some false) else (bif decide (36 < (a0_s.size : Int)) then (some false) else (chargenetref01_Valid_l27 F a0_s F 0))
def chargenetref15_times_p3 (a0_p : SProfile) : Option Bool :=
  bif decide (a0_p.Duration = (-1)) then (some true) else (bif decide (1 ≤ a0_p.Duration) then (some (decide (a0_p.Duration ≤ 268435456))) else (some false))
def chargenetref15_times_p8 (a0_p : SProfile) : Option Bool :=
  bif decide (a0_p.Start < 0) then (some false) else (bif decide (268435456 < a0_p.Start) then (some false) else (bif decide (a0_p.Kind = 4) then (bif (!decide (a0_p.Start = 0)) then (some false) else (chargenetref15_times_p3 a0_p)) else (chargenetref15_times_p3 a0_p)))
def chargenetref15_times (F : Nat) (a0_p : SProfile) : Option Bool :=
  bif decide (a0_p.Span_From < 0) then (some false) else (bif decide (268435456 < a0_p.Span_From) then (some false) else (bif (!decide (a0_p.Span_To = (-1))) then (bif decide (a0_p.Span_To < a0_p.Span_From) then (some false) else (bif decide (268435456 < a0_p.Span_To) then (some false) else (chargenetref15_times_p8 a0_p))) else (chargenetref15_times_p8 a0_p)))
def chargenetref15_last (F : Nat) (a0_kind : Int) : Option Int :=
  bif decide (a0_kind = 2) then (some 1439) else (bif decide (a0_kind = 3) then (some 10079) else (some 268435456))
def chargenetref15_Valid_p9  : Option Int :=
  some 0
def chargenetref15_Valid_p54 (a0_p : SProfile) (i_29 : Int) (kl_n_49 : Int → Option Int) : Option Int :=
  bif decide ((a0_p.Periods.getD i_29.toNat dSPeriod).Limit < 0) then (some 2) else (bif decide (1048576 < (a0_p.Periods.getD i_29.toNat dSPeriod).Limit) then (some 2) else (kl_n_49 (IntKind.wrap .i64 (i_29 + 1))))
def chargenetref15_Valid_b49 (F : Nat) (a0_p : SProfile) (kl_n_49 : Int → Option Int) (i_29 : Int) : Option Int :=
  bif decide (i_29 < ((a0_p.Periods).length : Int)) then (guard ((0 : Int) ≤ i_29 ∧ i_29 < ((a0_p.Periods).length : Int)) (bif decide (i_29 = 0) then (bif (!decide ((a0_p.Periods.getD i_29.toNat dSPeriod).At = 0)) then (some 1) else (bif decide (0 < i_29) then (guard ((0 : Int) ≤ IntKind.wrap .i64 (i_29 - 1) ∧ IntKind.wrap .i64 (i_29 - 1) < ((a0_p.Periods).length : Int)) (bif decide ((a0_p.Periods.getD i_29.toNat dSPeriod).At ≤ (a0_p.Periods.getD (IntKind.wrap .i64 (i_29 - 1)).toNat dSPeriod).At) then (some 1) else ((chargenetref15_last F a0_p.Kind).bind fun c_60 => bif decide (c_60 < (a0_p.Periods.getD i_29.toNat dSPeriod).At) then (some 1) else (chargenetref15_Valid_p54 a0_p i_29 kl_n_49)))) else (chargenetref15_Valid_p54 a0_p i_29 kl_n_49))) else (bif decide (0 < i_29) then (guard ((0 : Int) ≤ IntKind.wrap .i64 (i_29 - 1) ∧ IntKind.wrap .i64 (i_29 - 1) < ((a0_p.Periods).length : Int)) (bif decide ((a0_p.Periods.getD i_29.toNat dSPeriod).At ≤ (a0_p.Periods.getD (IntKind.wrap .i64 (i_29 - 1)).toNat dSPeriod).At) then (some 1) else ((chargenetref15_last F a0_p.Kind).bind fun c_66 => bif decide (c_66 < (a0_p.Periods.getD i_29.toNat dSPeriod).At) then (some 1) else (chargenetref15_Valid_p54 a0_p i_29 kl_n_49)))) else (chargenetref15_Valid_p54 a0_p i_29 kl_n_49)))) else (chargenetref15_Valid_p9)
def chargenetref15_Valid_l49 (F : Nat) (a0_p : SProfile) : Nat → Int → Option Int
  | 0, _ => none
  | n + 1, i_29 => chargenetref15_Valid_b49 F a0_p (fun i_29 => chargenetref15_Valid_l49 F a0_p n i_29) i_29
def chargenetref15_Valid_p69 (F : Nat) (a0_p : SProfile) : Option Int :=
  (chargenetref15_times F a0_p).bind fun c_4 => bif (!c_4) then (some 2) else (bif decide (24 < ((a0_p.Periods).length : Int)) then (some 3) else (bif decide (((a0_p.Periods).length : Int) = 0) then (some 1) else (chargenetref15_Valid_l49 F a0_p F 0)))
def chargenetref15_Valid_p76 (F : Nat) (a0_p : SProfile) : Option Int :=
  bif decide (a0_p.Purpose = 3) then (bif decide (a0_p.Conn = 0) then (some 1) else (bif decide (a0_p.Purpose = 1) then (bif decide (a0_p.Kind = 4) then (some 1) else (chargenetref15_Valid_p69 F a0_p)) else (chargenetref15_Valid_p69 F a0_p))) else (bif decide (a0_p.Purpose = 1) then (bif decide (a0_p.Kind = 4) then (some 1) else (chargenetref15_Valid_p69 F a0_p)) else (chargenetref15_Valid_p69 F a0_p))
def chargenetref15_Valid (F : Nat) (a0_p : SProfile) : Option Int :=
  (chargenetref15_first F a0_p).bind fun c_1 => bif (!c_1) then (some 2) else (bif decide (a0_p.Purpose = 3) then ((chargenetref01_Valid F a0_p.Txn).bind fun c_78 => bif (!c_78) then (some 4) else (bif (!decide (a0_p.Purpose = 3)) then (bif (!(sEq a0_p.Txn ByteArray.empty)) then (some 4) else (chargenetref15_Valid_p76 F a0_p)) else (chargenetref15_Valid_p76 F a0_p))) else (bif (!decide (a0_p.Purpose = 3)) then (bif (!(sEq a0_p.Txn ByteArray.empty)) then (some 4) else (chargenetref15_Valid_p76 F a0_p)) else (chargenetref15_Valid_p76 F a0_p)))
def chargenetlaw15_ProfileValids (F : Nat) (a0_p : SProfile) : Option Bool :=
  bif decide (50 < (a0_p.Txn.size : Int)) then ((chargenetlaw15_awake F).bind fun c_2 => some c_2) else (bif decide (30 < ((a0_p.Periods).length : Int)) then ((chargenetlaw15_awake F).bind fun c_5 => some c_5) else ((profile_Valid F a0_p).bind fun c_7 => (chargenetref15_Valid F a0_p).bind fun c_9 => bif decide (c_7 = c_9) then ((chargenetlaw15_awake F).bind fun c_12 => some c_12) else (some false)))
def chargenetlaw15_few_p2  : Option Bool :=
  some true
def chargenetlaw15_few_b14 (a0_l : List SProfile) (kl_n_14 : Int → Option Bool) (i_8 : Int) : Option Bool :=
  bif decide (i_8 < ((a0_l).length : Int)) then (guard ((0 : Int) ≤ i_8 ∧ i_8 < ((a0_l).length : Int)) (bif decide (30 < (((a0_l.getD i_8.toNat dSProfile).Periods).length : Int)) then (some false) else (guard ((0 : Int) ≤ i_8 ∧ i_8 < ((a0_l).length : Int)) (bif decide (50 < (((a0_l.getD i_8.toNat dSProfile).Txn).size : Int)) then (some false) else (kl_n_14 (IntKind.wrap .i64 (i_8 + 1))))))) else (chargenetlaw15_few_p2)
def chargenetlaw15_few_l14 (a0_l : List SProfile) : Nat → Int → Option Bool
  | 0, _ => none
  | n + 1, i_8 => chargenetlaw15_few_b14 a0_l (fun i_8 => chargenetlaw15_few_l14 a0_l n i_8) i_8
def chargenetlaw15_few (F : Nat) (a0_l : List SProfile) : Option Bool :=
  bif decide (20 < ((a0_l).length : Int)) then (some false) else (chargenetlaw15_few_l14 a0_l F 0)
def chargenetref15_Put_p7 (a0_l : List SProfile) (a1_p : SProfile) (o1_4 : List SProfile) : Option ((List SProfile) × Int) :=
  bif decide (16 ≤ ((o1_4).length : Int)) then (some ((a0_l, 3))) else (guard (((o1_4).length + ([a1_p]).length) * 112 ≤ 140737488355328 ∧ (o1_4).length + ([a1_p]).length ≤ 140737488355328) (some ((o1_4 ++ ([a1_p]), 0))))
def chargenetref15_Put_p35 (i_19 : Int) (kl_n_32 : Int → (List SProfile) → Option ((List SProfile) × Int)) (o1_34 : List SProfile) : Option ((List SProfile) × Int) :=
  kl_n_32 (IntKind.wrap .i64 (i_19 + 1)) o1_34
def chargenetref15_Put_b32 (F : Nat) (a0_l : List SProfile) (a1_p : SProfile) (kl_n_32 : Int → (List SProfile) → Option ((List SProfile) × Int)) (i_19 : Int) (o1_20 : List SProfile) : Option ((List SProfile) × Int) :=
  bif decide (i_19 < ((a0_l).length : Int)) then (guard ((0 : Int) ≤ i_19 ∧ i_19 < ((a0_l).length : Int)) (bif (!decide ((a0_l.getD i_19.toNat dSProfile).ID = a1_p.ID)) then (guard ((0 : Int) ≤ i_19 ∧ i_19 < ((a0_l).length : Int)) ((chargenetref15_slot F (a0_l.getD i_19.toNat dSProfile) a1_p).bind fun c_39 => bif (!c_39) then (guard ((0 : Int) ≤ i_19 ∧ i_19 < ((a0_l).length : Int)) (guard (((o1_20).length + ([a0_l.getD i_19.toNat dSProfile]).length) * 112 ≤ 140737488355328 ∧ (o1_20).length + ([a0_l.getD i_19.toNat dSProfile]).length ≤ 140737488355328) (chargenetref15_Put_p35 i_19 kl_n_32 (o1_20 ++ ([a0_l.getD i_19.toNat dSProfile]))))) else (chargenetref15_Put_p35 i_19 kl_n_32 o1_20))) else (chargenetref15_Put_p35 i_19 kl_n_32 o1_20))) else (chargenetref15_Put_p7 a0_l a1_p o1_20)
def chargenetref15_Put_l32 (F : Nat) (a0_l : List SProfile) (a1_p : SProfile) : Nat → Int → (List SProfile) → Option ((List SProfile) × Int)
  | 0, _, _ => none
  | n + 1, i_19, o1_20 => chargenetref15_Put_b32 F a0_l a1_p (fun i_19 o1_20 => chargenetref15_Put_l32 F a0_l a1_p n i_19 o1_20) i_19 o1_20
def chargenetref15_Put (F : Nat) (a0_l : List SProfile) (a1_p : SProfile) : Option ((List SProfile) × Int) :=
  (chargenetref15_Valid F a1_p).bind fun c_1 => bif (!decide (c_1 = 0)) then (some ((a0_l, c_1))) else (chargenetref15_Put_l32 F a0_l a1_p F 0 (([] : List SProfile)))
def chargenetlaw15_ProfilePuts (F : Nat) (a0_l : List SProfile) (a1_p : SProfile) : Option Bool :=
  (chargenetlaw15_few F a0_l).bind fun c_1 => bif (!c_1) then ((chargenetlaw15_awake F).bind fun c_4 => some c_4) else (bif decide (50 < (a1_p.Txn.size : Int)) then ((chargenetlaw15_awake F).bind fun c_7 => some c_7) else (bif decide (30 < ((a1_p.Periods).length : Int)) then ((chargenetlaw15_awake F).bind fun c_10 => some c_10) else ((profile_Put F a0_l a1_p).bind fun c_12 => (chargenetref15_Put F a0_l a1_p).bind fun c_14 => (chargenetref15_SameAll F c_12.1 c_14.1).bind fun c_16 => bif (!c_16) then (some false) else (bif (!decide (c_12.2 = c_14.2)) then (some false) else (bif (!decide (c_12.2 = 0)) then ((chargenetlaw15_awake F).bind fun c_21 => some c_21) else ((profile_Clear F c_12.1 a1_p.ID).bind fun c_23 => guard ((0 : Int) ≤ IntKind.wrap .i64 (((c_14.1).length : Int) - 1) ∧ IntKind.wrap .i64 (((c_14.1).length : Int) - 1) ≤ ((c_14.1).length : Int)) ((chargenetref15_SameAll F c_23.1 (subL c_14.1 0 (IntKind.wrap .i64 (((c_14.1).length : Int) - 1) : Int).toNat)).bind fun c_26 => bif c_26 then (bif decide (c_23.2 = 0) then ((chargenetlaw15_awake F).bind fun c_30 => some c_30) else (some false)) else (some false))))))))
def chargenetref15_Clear_p3 (a0_l : List SProfile) (o0_1 : List SProfile) : Option ((List SProfile) × Int) :=
  bif decide (((o0_1).length : Int) = ((a0_l).length : Int)) then (some ((a0_l, 8))) else (some ((o0_1, 0)))
def chargenetref15_Clear_p23 (i_11 : Int) (kl_n_20 : Int → (List SProfile) → Option ((List SProfile) × Int)) (o0_22 : List SProfile) : Option ((List SProfile) × Int) :=
  kl_n_20 (IntKind.wrap .i64 (i_11 + 1)) o0_22
def chargenetref15_Clear_b20 (a0_l : List SProfile) (a1_id : Int) (kl_n_20 : Int → (List SProfile) → Option ((List SProfile) × Int)) (i_11 : Int) (o0_12 : List SProfile) : Option ((List SProfile) × Int) :=
  bif decide (i_11 < ((a0_l).length : Int)) then (guard ((0 : Int) ≤ i_11 ∧ i_11 < ((a0_l).length : Int)) (bif (!decide ((a0_l.getD i_11.toNat dSProfile).ID = a1_id)) then (guard ((0 : Int) ≤ i_11 ∧ i_11 < ((a0_l).length : Int)) (guard (((o0_12).length + ([a0_l.getD i_11.toNat dSProfile]).length) * 112 ≤ 140737488355328 ∧ (o0_12).length + ([a0_l.getD i_11.toNat dSProfile]).length ≤ 140737488355328) (chargenetref15_Clear_p23 i_11 kl_n_20 (o0_12 ++ ([a0_l.getD i_11.toNat dSProfile]))))) else (chargenetref15_Clear_p23 i_11 kl_n_20 o0_12))) else (chargenetref15_Clear_p3 a0_l o0_12)
def chargenetref15_Clear_l20 (a0_l : List SProfile) (a1_id : Int) : Nat → Int → (List SProfile) → Option ((List SProfile) × Int)
  | 0, _, _ => none
  | n + 1, i_11, o0_12 => chargenetref15_Clear_b20 a0_l a1_id (fun i_11 o0_12 => chargenetref15_Clear_l20 a0_l a1_id n i_11 o0_12) i_11 o0_12
def chargenetref15_Clear (F : Nat) (a0_l : List SProfile) (a1_id : Int) : Option ((List SProfile) × Int) :=
  chargenetref15_Clear_l20 a0_l a1_id F 0 (([] : List SProfile))
def chargenetlaw15_ProfileClears (F : Nat) (a0_l : List SProfile) (a1_id : Int) : Option Bool :=
  (chargenetlaw15_few F a0_l).bind fun c_1 => bif (!c_1) then ((chargenetlaw15_awake F).bind fun c_4 => some c_4) else ((profile_Clear F a0_l a1_id).bind fun c_6 => (chargenetref15_Clear F a0_l a1_id).bind fun c_8 => (chargenetref15_SameAll F c_6.1 c_8.1).bind fun c_10 => bif c_10 then (bif decide (c_6.2 = c_8.2) then ((chargenetlaw15_awake F).bind fun c_14 => some c_14) else (some false)) else (some false))
def chargenetlaw15_ProfileUnique_p9 (F : Nat) : Option Bool :=
  (chargenetlaw15_awake F).bind fun c_7 => some c_7
def chargenetlaw15_ProfileUnique_p75 (i_41 : Int) (kl_n_73 : Int → Option Bool) : Option Bool :=
  kl_n_73 (IntKind.wrap .i64 (i_41 + 1))
def chargenetlaw15_ProfileUnique_p97 (k_85 : Int) (kl_n_95 : Int → Option Bool) : Option Bool :=
  kl_n_95 (IntKind.wrap .i64 (k_85 + 1))
def chargenetlaw15_ProfileUnique_b95 (m_6 : List SProfile) (i_41 : Int) (kl_n_73 : Int → Option Bool) (kl_n_95 : Int → Option Bool) (k_85 : Int) : Option Bool :=
  bif decide (k_85 < i_41) then (guard ((0 : Int) ≤ i_41 ∧ i_41 < ((m_6).length : Int)) (guard ((0 : Int) ≤ k_85 ∧ k_85 < ((m_6).length : Int)) (bif decide ((m_6.getD i_41.toNat dSProfile).ID = (m_6.getD k_85.toNat dSProfile).ID) then (some false) else (bif decide ((m_6.getD i_41.toNat dSProfile).Purpose = (m_6.getD k_85.toNat dSProfile).Purpose) then (bif decide ((m_6.getD i_41.toNat dSProfile).Level = (m_6.getD k_85.toNat dSProfile).Level) then (bif decide ((m_6.getD i_41.toNat dSProfile).Conn = (m_6.getD k_85.toNat dSProfile).Conn) then (bif sEq ((m_6.getD i_41.toNat dSProfile).Txn) ((m_6.getD k_85.toNat dSProfile).Txn) then (some false) else (chargenetlaw15_ProfileUnique_p97 k_85 kl_n_95)) else (chargenetlaw15_ProfileUnique_p97 k_85 kl_n_95)) else (chargenetlaw15_ProfileUnique_p97 k_85 kl_n_95)) else (chargenetlaw15_ProfileUnique_p97 k_85 kl_n_95))))) else (chargenetlaw15_ProfileUnique_p75 i_41 kl_n_73)
def chargenetlaw15_ProfileUnique_l95 (m_6 : List SProfile) (i_41 : Int) (kl_n_73 : Int → Option Bool) : Nat → Int → Option Bool
  | 0, _ => none
  | n + 1, k_85 => chargenetlaw15_ProfileUnique_b95 m_6 i_41 kl_n_73 (fun k_85 => chargenetlaw15_ProfileUnique_l95 m_6 i_41 kl_n_73 n k_85) k_85
def chargenetlaw15_ProfileUnique_b73 (F : Nat) (m_6 : List SProfile) (kl_n_73 : Int → Option Bool) (i_41 : Int) : Option Bool :=
  bif decide (i_41 < ((m_6).length : Int)) then (chargenetlaw15_ProfileUnique_l95 m_6 i_41 kl_n_73 F 0) else (chargenetlaw15_ProfileUnique_p9 F)
def chargenetlaw15_ProfileUnique_l73 (F : Nat) (m_6 : List SProfile) : Nat → Int → Option Bool
  | 0, _ => none
  | n + 1, i_41 => chargenetlaw15_ProfileUnique_b73 F m_6 (fun i_41 => chargenetlaw15_ProfileUnique_l73 F m_6 n i_41) i_41
def chargenetlaw15_ProfileUnique_p105 (F : Nat) (m_6 : List SProfile) : Option Bool :=
  chargenetlaw15_ProfileUnique_l73 F m_6 F 0
def chargenetlaw15_ProfileUnique_p163 (i_132 : Int) (kl_n_158 : (List SProfile) → Int → Option Bool) (c_161 : (List SProfile) × Int) : Option Bool :=
  kl_n_158 c_161.1 (IntKind.wrap .i64 (i_132 + 1))
def chargenetlaw15_ProfileUnique_b158 (F : Nat) (a0_l : List SProfile) (kl_n_158 : (List SProfile) → Int → Option Bool) (m_131 : List SProfile) (i_132 : Int) : Option Bool :=
  bif decide (i_132 < ((a0_l).length : Int)) then (guard ((0 : Int) ≤ i_132 ∧ i_132 < ((a0_l).length : Int)) ((profile_Put F m_131 (a0_l.getD i_132.toNat dSProfile)).bind fun c_161 => bif (!decide (c_161.2 = 0)) then ((chargenetref15_SameAll F c_161.1 m_131).bind fun c_165 => bif (!c_165) then (some false) else (bif decide (c_161.2 = 0) then (bif decide (((c_161.1).length : Int) = 0) then (some false) else (bif decide (16 < ((c_161.1).length : Int)) then (some false) else (guard ((0 : Int) ≤ IntKind.wrap .i64 (((c_161.1).length : Int) - 1) ∧ IntKind.wrap .i64 (((c_161.1).length : Int) - 1) < ((c_161.1).length : Int)) (guard ((0 : Int) ≤ i_132 ∧ i_132 < ((a0_l).length : Int)) ((chargenetref15_Same F (c_161.1.getD (IntKind.wrap .i64 (((c_161.1).length : Int) - 1)).toNat dSProfile) (a0_l.getD i_132.toNat dSProfile)).bind fun c_173 => bif (!c_173) then (some false) else (chargenetlaw15_ProfileUnique_p163 i_132 kl_n_158 c_161)))))) else (chargenetlaw15_ProfileUnique_p163 i_132 kl_n_158 c_161))) else (bif decide (c_161.2 = 0) then (bif decide (((c_161.1).length : Int) = 0) then (some false) else (bif decide (16 < ((c_161.1).length : Int)) then (some false) else (guard ((0 : Int) ≤ IntKind.wrap .i64 (((c_161.1).length : Int) - 1) ∧ IntKind.wrap .i64 (((c_161.1).length : Int) - 1) < ((c_161.1).length : Int)) (guard ((0 : Int) ≤ i_132 ∧ i_132 < ((a0_l).length : Int)) ((chargenetref15_Same F (c_161.1.getD (IntKind.wrap .i64 (((c_161.1).length : Int) - 1)).toNat dSProfile) (a0_l.getD i_132.toNat dSProfile)).bind fun c_181 => bif (!c_181) then (some false) else (chargenetlaw15_ProfileUnique_p163 i_132 kl_n_158 c_161)))))) else (chargenetlaw15_ProfileUnique_p163 i_132 kl_n_158 c_161)))) else (chargenetlaw15_ProfileUnique_p105 F m_131)
def chargenetlaw15_ProfileUnique_l158 (F : Nat) (a0_l : List SProfile) : Nat → (List SProfile) → Int → Option Bool
  | 0, _, _ => none
  | n + 1, m_131, i_132 => chargenetlaw15_ProfileUnique_b158 F a0_l (fun m_131 i_132 => chargenetlaw15_ProfileUnique_l158 F a0_l n m_131 i_132) m_131 i_132
def chargenetlaw15_ProfileUnique (F : Nat) (a0_l : List SProfile) : Option Bool :=
  (chargenetlaw15_few F a0_l).bind fun c_1 => bif (!c_1) then ((chargenetlaw15_awake F).bind fun c_4 => some c_4) else (chargenetlaw15_ProfileUnique_l158 F a0_l F ([]) 0)
def chargenetlaw15_right (F : Nat) (a0_p : SProfile) : Option Bool :=
  bif decide ((a0_p.Txn.size : Int) ≤ 50) then (bif decide (((a0_p.Periods).length : Int) ≤ 30) then ((chargenetref15_Valid F a0_p).bind fun c_3 => some (decide (c_3 = 0))) else (some false)) else (some false)
def chargenetref15_cycle (F : Nat) (a0_kind : Int) : Option Int :=
  bif decide (a0_kind = 2) then (some 1440) else (bif decide (a0_kind = 3) then (some 10080) else (some 0))
def chargenetref15_origin_p4 (o_3 : Int) : Option (Int × Bool) :=
  some ((o_3, true))
def chargenetref15_origin_p9 (F : Nat) (a0_p : SProfile) (a2_t : Int) (o_1 : Int) : Option (Int × Bool) :=
  bif decide (a2_t < o_1) then (some ((0, false))) else ((chargenetref15_cycle F a0_p.Kind).bind fun c_5 => bif decide (0 < c_5) then (guard (c_5 ≠ 0) (chargenetref15_origin_p4 (IntKind.wrap .i64 (a2_t - Int.tmod (IntKind.wrap .i64 (a2_t - o_1)) c_5)))) else (chargenetref15_origin_p4 o_1))
def chargenetref15_origin (F : Nat) (a0_p : SProfile) (a1_start : Int) (a2_t : Int) : Option (Int × Bool) :=
  bif decide (a0_p.Kind = 4) then (chargenetref15_origin_p9 F a0_p a2_t a1_start) else (chargenetref15_origin_p9 F a0_p a2_t a0_p.Start)
def chargenetref15_Limit_p4 (n_3 : Int) : Option (Int × Bool) :=
  some ((n_3, true))
def chargenetref15_Limit_p22 (i_12 : Int) (kl_n_19 : Int → Int → Option (Int × Bool)) (n_21 : Int) : Option (Int × Bool) :=
  kl_n_19 n_21 (IntKind.wrap .i64 (i_12 + 1))
def chargenetref15_Limit_b19 (a0_p : SProfile) (a2_t : Int) (c_1 : Int × Bool) (kl_n_19 : Int → Int → Option (Int × Bool)) (n_11 : Int) (i_12 : Int) : Option (Int × Bool) :=
  bif decide (i_12 < ((a0_p.Periods).length : Int)) then (guard ((0 : Int) ≤ i_12 ∧ i_12 < ((a0_p.Periods).length : Int)) (bif decide (IntKind.wrap .u64 ((a0_p.Periods.getD i_12.toNat dSPeriod).At) ≤ IntKind.wrap .u64 (IntKind.wrap .u64 a2_t - IntKind.wrap .u64 c_1.1)) then (guard ((0 : Int) ≤ i_12 ∧ i_12 < ((a0_p.Periods).length : Int)) (chargenetref15_Limit_p22 i_12 kl_n_19 ((a0_p.Periods.getD i_12.toNat dSPeriod).Limit))) else (chargenetref15_Limit_p22 i_12 kl_n_19 n_11))) else (chargenetref15_Limit_p4 n_11)
def chargenetref15_Limit_l19 (a0_p : SProfile) (a2_t : Int) (c_1 : Int × Bool) : Nat → Int → Int → Option (Int × Bool)
  | 0, _, _ => none
  | n + 1, n_11, i_12 => chargenetref15_Limit_b19 a0_p a2_t c_1 (fun n_11 i_12 => chargenetref15_Limit_l19 a0_p a2_t c_1 n n_11 i_12) n_11 i_12
def chargenetref15_Limit_p26 (F : Nat) (a0_p : SProfile) (a2_t : Int) (c_1 : Int × Bool) : Option (Int × Bool) :=
  chargenetref15_Limit_l19 a0_p a2_t c_1 F 0 0
def chargenetref15_Limit_p30 (F : Nat) (a0_p : SProfile) (a1_start : Int) (a2_t : Int) : Option (Int × Bool) :=
  (chargenetref15_origin F a0_p a1_start a2_t).bind fun c_1 => bif (!c_1.2) then (some ((0, false))) else (bif (!decide (a0_p.Duration = (-1))) then (bif decide (IntKind.wrap .u64 a0_p.Duration ≤ IntKind.wrap .u64 (IntKind.wrap .u64 a2_t - IntKind.wrap .u64 c_1.1)) then (some ((0, false))) else (chargenetref15_Limit_p26 F a0_p a2_t c_1)) else (chargenetref15_Limit_p26 F a0_p a2_t c_1))
def chargenetref15_Limit (F : Nat) (a0_p : SProfile) (a1_start : Int) (a2_t : Int) : Option (Int × Bool) :=
  bif decide (a2_t < a0_p.Span_From) then (some ((0, false))) else (bif (!decide (a0_p.Span_To = (-1))) then (bif decide (a0_p.Span_To ≤ a2_t) then (some ((0, false))) else (chargenetref15_Limit_p30 F a0_p a1_start a2_t)) else (chargenetref15_Limit_p30 F a0_p a1_start a2_t))
def chargenetlaw15_ProfileLimits (F : Nat) (a0_p : SProfile) (a1_start : Int) (a2_t : Int) : Option Bool :=
  (chargenetlaw15_right F a0_p).bind fun c_1 => bif (!c_1) then ((chargenetlaw15_awake F).bind fun c_4 => some c_4) else ((profile_Limit F a0_p a1_start a2_t).bind fun c_6 => (chargenetref15_Limit F a0_p a1_start a2_t).bind fun c_8 => bif decide (c_6.1 = c_8.1) then (bif (c_6.2 == c_8.2) then ((chargenetlaw15_awake F).bind fun c_12 => some c_12) else (some false)) else (some false))
def chargenetref15_least_p1 (a0_n : Int) : Option Int :=
  some a0_n
def chargenetref15_least (F : Nat) (a0_n : Int) (a1_x : Int) (a2_t : Int) : Option Int :=
  bif decide (a2_t < a1_x) then (bif decide (a0_n < 0) then (some a1_x) else (bif decide (a1_x < a0_n) then (some a1_x) else (chargenetref15_least_p1 a0_n))) else (chargenetref15_least_p1 a0_n)
def chargenetref15_candidate_p13 (n_12 : Int) : Option Int :=
  some n_12
def chargenetref15_candidate_p19 (F : Nat) (a0_p : SProfile) (a2_t : Int) (o_8 : Int) (n_11 : Int) : Option Int :=
  (chargenetref15_cycle F a0_p.Kind).bind fun c_14 => bif decide (0 < c_14) then ((chargenetref15_least F n_11 (IntKind.wrap .i64 (o_8 + c_14)) a2_t).bind fun c_17 => chargenetref15_candidate_p13 c_17) else (chargenetref15_candidate_p13 n_11)
def chargenetref15_candidate_p23 (F : Nat) (a0_p : SProfile) (a2_t : Int) (o_8 : Int) (n_10 : Int) : Option Int :=
  bif (!decide (a0_p.Duration = (-1))) then ((chargenetref15_least F n_10 (IntKind.wrap .i64 (o_8 + a0_p.Duration)) a2_t).bind fun c_21 => chargenetref15_candidate_p19 F a0_p a2_t o_8 c_21) else (chargenetref15_candidate_p19 F a0_p a2_t o_8 n_10)
def chargenetref15_candidate_b34 (F : Nat) (a0_p : SProfile) (a2_t : Int) (o_8 : Int) (kl_n_34 : Int → Int → Option Int) (n_28 : Int) (i_29 : Int) : Option Int :=
  bif decide (i_29 < ((a0_p.Periods).length : Int)) then (guard ((0 : Int) ≤ i_29 ∧ i_29 < ((a0_p.Periods).length : Int)) ((chargenetref15_least F n_28 (IntKind.wrap .i64 (o_8 + (a0_p.Periods.getD i_29.toNat dSPeriod).At)) a2_t).bind fun c_37 => kl_n_34 c_37 (IntKind.wrap .i64 (i_29 + 1)))) else (chargenetref15_candidate_p23 F a0_p a2_t o_8 n_28)
def chargenetref15_candidate_l34 (F : Nat) (a0_p : SProfile) (a2_t : Int) (o_8 : Int) : Nat → Int → Int → Option Int
  | 0, _, _ => none
  | n + 1, n_28, i_29 => chargenetref15_candidate_b34 F a0_p a2_t o_8 (fun n_28 i_29 => chargenetref15_candidate_l34 F a0_p a2_t o_8 n n_28 i_29) n_28 i_29
def chargenetref15_candidate_p39 (F : Nat) (a0_p : SProfile) (a2_t : Int) (c_6 : Int) (o_8 : Int) : Option Int :=
  bif decide (o_8 < (-536870912)) then (some c_6) else (chargenetref15_candidate_l34 F a0_p a2_t o_8 F c_6 0)
def chargenetref15_candidate_p43 (F : Nat) (a0_p : SProfile) (a1_start : Int) (a2_t : Int) (c_3 : Int) (o_5 : Int) : Option Int :=
  (chargenetref15_least F c_3 o_5 a2_t).bind fun c_6 => (chargenetref15_origin F a0_p a1_start a2_t).bind fun c_40 => bif c_40.2 then (chargenetref15_candidate_p39 F a0_p a2_t c_6 c_40.1) else (chargenetref15_candidate_p39 F a0_p a2_t c_6 o_5)
def chargenetref15_candidate (F : Nat) (a0_p : SProfile) (a1_start : Int) (a2_t : Int) : Option Int :=
  (chargenetref15_least F ((-1)) a0_p.Span_From a2_t).bind fun c_1 => (chargenetref15_least F c_1 a0_p.Span_To a2_t).bind fun c_3 => bif decide (a0_p.Kind = 4) then (bif decide (268435456 < a1_start) then (some c_3) else (chargenetref15_candidate_p43 F a0_p a1_start a2_t c_3 a1_start)) else (chargenetref15_candidate_p43 F a0_p a1_start a2_t c_3 a0_p.Start)
def chargenetref15_Changes (F : Nat) (a0_p : SProfile) (a1_start : Int) (a2_t : Int) : Option Bool :=
  (chargenetref15_Limit F a0_p a1_start (IntKind.wrap .i64 (a2_t - 1))).bind fun c_1 => (chargenetref15_Limit F a0_p a1_start a2_t).bind fun c_3 => bif (!decide (c_1.1 = c_3.1)) then (some true) else (some ((!(c_1.2 == c_3.2))))
def chargenetref15_border (F : Nat) (a0_p : SProfile) (a1_t : Int) : Option Int :=
  (chargenetref15_least F ((-1)) a0_p.Span_From a1_t).bind fun c_1 => (chargenetref15_least F c_1 a0_p.Span_To a1_t).bind fun c_3 => (chargenetref15_least F c_3 a0_p.Start a1_t).bind fun c_5 => some c_5
def chargenetref15_Next_p3  : Option Int :=
  some ((-1))
def chargenetref15_Next_p89 (round_45 : Int) (kl_n_85 : Int → Int → Int → Option Int) (from_87 : Int) (b_88 : Int) : Option Int :=
  kl_n_85 from_87 b_88 (IntKind.wrap .i64 (round_45 + 1))
def chargenetref15_Next_p97 (F : Nat) (a0_p : SProfile) (b_44 : Int) (round_45 : Int) (kl_n_85 : Int → Int → Int → Option Int) : Option Int :=
  (chargenetref15_border F a0_p b_44).bind fun c_93 => bif decide (c_93 < 0) then (some ((-1))) else (bif decide (268435456 < c_93) then (some ((-1))) else (chargenetref15_Next_p89 round_45 kl_n_85 (IntKind.wrap .i64 (c_93 - 1)) c_93))
def chargenetref15_Next_b113 (F : Nat) (a0_p : SProfile) (a1_start : Int) (b_44 : Int) (round_45 : Int) (kl_n_85 : Int → Int → Int → Option Int) (end_90 : Int) (kl_n_113 : Int → Option Int) (u_105 : Int) : Option Int :=
  bif decide (0 ≤ u_105) then (bif decide (u_105 ≤ end_90) then ((chargenetref15_Changes F a0_p a1_start u_105).bind fun c_116 => bif c_116 then (some u_105) else ((chargenetref15_candidate F a0_p a1_start u_105).bind fun c_119 => kl_n_113 c_119)) else (chargenetref15_Next_p97 F a0_p b_44 round_45 kl_n_85)) else (chargenetref15_Next_p97 F a0_p b_44 round_45 kl_n_85)
def chargenetref15_Next_l113 (F : Nat) (a0_p : SProfile) (a1_start : Int) (b_44 : Int) (round_45 : Int) (kl_n_85 : Int → Int → Int → Option Int) (end_90 : Int) : Nat → Int → Option Int
  | 0, _ => none
  | n + 1, u_105 => chargenetref15_Next_b113 F a0_p a1_start b_44 round_45 kl_n_85 end_90 (fun u_105 => chargenetref15_Next_l113 F a0_p a1_start b_44 round_45 kl_n_85 end_90 n u_105) u_105
def chargenetref15_Next_p121 (F : Nat) (a0_p : SProfile) (a1_start : Int) (from_43 : Int) (b_44 : Int) (round_45 : Int) (kl_n_85 : Int → Int → Int → Option Int) (end_90 : Int) : Option Int :=
  (chargenetref15_candidate F a0_p a1_start from_43).bind fun c_91 => chargenetref15_Next_l113 F a0_p a1_start b_44 round_45 kl_n_85 end_90 F c_91
def chargenetref15_Next_b85 (F : Nat) (a0_p : SProfile) (a1_start : Int) (kl_n_85 : Int → Int → Int → Option Int) (from_43 : Int) (b_44 : Int) (round_45 : Int) : Option Int :=
  bif decide (round_45 < 4) then ((chargenetref15_cycle F a0_p.Kind).bind fun c_122 => bif decide (0 < c_122) then (chargenetref15_Next_p121 F a0_p a1_start from_43 b_44 round_45 kl_n_85 ((if IntKind.wrap .i64 (from_43 + IntKind.wrap .i64 (2 * c_122)) < 268435456 then IntKind.wrap .i64 (from_43 + IntKind.wrap .i64 (2 * c_122)) else 268435456))) else (chargenetref15_Next_p121 F a0_p a1_start from_43 b_44 round_45 kl_n_85 268435456)) else (chargenetref15_Next_p3)
def chargenetref15_Next_l85 (F : Nat) (a0_p : SProfile) (a1_start : Int) : Nat → Int → Int → Int → Option Int
  | 0, _, _, _ => none
  | n + 1, from_43, b_44, round_45 => chargenetref15_Next_b85 F a0_p a1_start (fun from_43 b_44 round_45 => chargenetref15_Next_l85 F a0_p a1_start n from_43 b_44 round_45) from_43 b_44 round_45
def chargenetref15_Next (F : Nat) (a0_p : SProfile) (a1_start : Int) (a2_t : Int) : Option Int :=
  bif decide (a2_t < 0) then (some ((-1))) else (bif decide (268435456 < a2_t) then (some ((-1))) else (chargenetref15_Next_l85 F a0_p a1_start F a2_t a2_t 0))
def chargenetlaw15_ProfileNexts (F : Nat) (a0_p : SProfile) (a1_start : Int) (a2_t : Int) : Option Bool :=
  (chargenetlaw15_right F a0_p).bind fun c_1 => bif (!c_1) then ((chargenetlaw15_awake F).bind fun c_4 => some c_4) else ((profile_Next F a0_p a1_start a2_t).bind fun c_6 => (chargenetref15_Next F a0_p a1_start a2_t).bind fun c_8 => bif decide (c_6 = c_8) then ((chargenetlaw15_awake F).bind fun c_11 => some c_11) else (some false))
def chargenetlaw15_ProfileHolds_p35 (F : Nat) (a0_p : SProfile) (a1_start : Int) (a2_t : Int) (a3_part : Int) (c_12 : Int) (end_14 : Int) : Option Bool :=
  bif decide (end_14 ≤ a2_t) then (some false) else (bif decide (268435457 < end_14) then (some false) else ((profile_Limit F a0_p a1_start a2_t).bind fun c_17 => guard (IntKind.wrap .i64 (end_14 - a2_t) ≠ 0) ((profile_Limit F a0_p a1_start (IntKind.wrap .i64 (a2_t + Int.tmod (IntKind.wrap .i64 a3_part) (IntKind.wrap .i64 (end_14 - a2_t))))).bind fun c_20 => bif (!decide (c_17.1 = c_20.1)) then (some false) else (bif (!(c_17.2 == c_20.2)) then (some false) else (bif decide (c_12 = (-1)) then ((chargenetlaw15_awake F).bind fun c_25 => some c_25) else ((profile_Limit F a0_p a1_start c_12).bind fun c_27 => bif (!decide (c_27.1 = c_17.1)) then ((chargenetlaw15_awake F).bind fun c_30 => some c_30) else (bif (!(c_27.2 == c_17.2)) then ((chargenetlaw15_awake F).bind fun c_33 => some c_33) else (some false))))))))
def chargenetlaw15_ProfileHolds (F : Nat) (a0_p : SProfile) (a1_start : Int) (a2_t : Int) (a3_part : Int) : Option Bool :=
  (chargenetlaw15_right F a0_p).bind fun c_1 => bif (!c_1) then ((chargenetlaw15_awake F).bind fun c_4 => some c_4) else (bif decide (a2_t < 0) then ((chargenetlaw15_awake F).bind fun c_7 => some c_7) else (bif decide (268435456 < a2_t) then ((chargenetlaw15_awake F).bind fun c_10 => some c_10) else ((profile_Next F a0_p a1_start a2_t).bind fun c_12 => bif decide (c_12 = (-1)) then (chargenetlaw15_ProfileHolds_p35 F a0_p a1_start a2_t a3_part c_12 268435457) else (chargenetlaw15_ProfileHolds_p35 F a0_p a1_start a2_t a3_part c_12 c_12))))
def chargenetlaw15_ProfileRecurs_p13 (F : Nat) (c_2 : Int × Bool) (c_4 : Int × Bool) (some_6 : Bool) : Option Bool :=
  bif decide (c_2.1 = c_4.1) then (bif c_2.2 then (bif c_4.2 then (bif some_6 then ((chargenetlaw15_awake F).bind fun c_11 => some c_11) else (some false)) else (some false)) else (some false)) else (some false)
def chargenetlaw15_ProfileRecurs_p26 (i_17 : Int) (kl_n_23 : Bool → Int → Option Bool) (some_25 : Bool) : Option Bool :=
  kl_n_23 some_25 (IntKind.wrap .i64 (i_17 + 1))
def chargenetlaw15_ProfileRecurs_b23 (F : Nat) (a0_p : SProfile) (c_2 : Int × Bool) (c_4 : Int × Bool) (kl_n_23 : Bool → Int → Option Bool) (some_16 : Bool) (i_17 : Int) : Option Bool :=
  bif decide (i_17 < ((a0_p.Periods).length : Int)) then (bif some_16 then (chargenetlaw15_ProfileRecurs_p26 i_17 kl_n_23 true) else (guard ((0 : Int) ≤ i_17 ∧ i_17 < ((a0_p.Periods).length : Int)) (chargenetlaw15_ProfileRecurs_p26 i_17 kl_n_23 (decide ((a0_p.Periods.getD i_17.toNat dSPeriod).Limit = c_2.1))))) else (chargenetlaw15_ProfileRecurs_p13 F c_2 c_4 some_16)
def chargenetlaw15_ProfileRecurs_l23 (F : Nat) (a0_p : SProfile) (c_2 : Int × Bool) (c_4 : Int × Bool) : Nat → Bool → Int → Option Bool
  | 0, _, _ => none
  | n + 1, some_16, i_17 => chargenetlaw15_ProfileRecurs_b23 F a0_p c_2 c_4 (fun some_16 i_17 => chargenetlaw15_ProfileRecurs_l23 F a0_p c_2 c_4 n some_16 i_17) some_16 i_17
def chargenetlaw15_ProfileRecurs_p29 (F : Nat) (a0_p : SProfile) (a1_start : Int) (a2_t : Int) (c_1 : Int) : Option Bool :=
  (profile_Limit F (SProfile.mk a0_p.ID a0_p.Level a0_p.Purpose a0_p.Kind a0_p.Conn a0_p.Txn a0_p.Span_From ((-1)) a0_p.Start ((-1)) a0_p.Periods) a1_start a2_t).bind fun c_2 => (profile_Limit F (SProfile.mk a0_p.ID a0_p.Level a0_p.Purpose a0_p.Kind a0_p.Conn a0_p.Txn a0_p.Span_From ((-1)) a0_p.Start ((-1)) a0_p.Periods) a1_start (IntKind.wrap .i64 (a2_t + c_1))).bind fun c_4 => chargenetlaw15_ProfileRecurs_l23 F a0_p c_2 c_4 F false 0
def chargenetlaw15_ProfileRecurs_p31 (F : Nat) (a0_p : SProfile) (a1_start : Int) (a2_t : Int) : Option Bool :=
  bif decide (a0_p.Kind = 3) then (chargenetlaw15_ProfileRecurs_p29 F a0_p a1_start a2_t 10080) else (chargenetlaw15_ProfileRecurs_p29 F a0_p a1_start a2_t 1440)
def chargenetlaw15_ProfileRecurs (F : Nat) (a0_p : SProfile) (a1_start : Int) (a2_t : Int) : Option Bool :=
  (chargenetlaw15_right F (SProfile.mk a0_p.ID a0_p.Level a0_p.Purpose a0_p.Kind a0_p.Conn a0_p.Txn a0_p.Span_From ((-1)) a0_p.Start ((-1)) a0_p.Periods)).bind fun c_32 => bif (!c_32) then ((chargenetlaw15_awake F).bind fun c_35 => some c_35) else (bif (!decide (a0_p.Kind = 2)) then (bif (!decide (a0_p.Kind = 3)) then ((chargenetlaw15_awake F).bind fun c_39 => some c_39) else (bif decide (a2_t < a0_p.Start) then ((chargenetlaw15_awake F).bind fun c_42 => some c_42) else (bif decide (a2_t < a0_p.Span_From) then ((chargenetlaw15_awake F).bind fun c_45 => some c_45) else (bif decide (268435456 < a2_t) then ((chargenetlaw15_awake F).bind fun c_48 => some c_48) else (chargenetlaw15_ProfileRecurs_p31 F a0_p a1_start a2_t))))) else (bif decide (a2_t < a0_p.Start) then ((chargenetlaw15_awake F).bind fun c_51 => some c_51) else (bif decide (a2_t < a0_p.Span_From) then ((chargenetlaw15_awake F).bind fun c_54 => some c_54) else (bif decide (268435456 < a2_t) then ((chargenetlaw15_awake F).bind fun c_57 => some c_57) else (chargenetlaw15_ProfileRecurs_p31 F a0_p a1_start a2_t)))))
end Go.Proofs.Ytldekibkmombdaa.M
