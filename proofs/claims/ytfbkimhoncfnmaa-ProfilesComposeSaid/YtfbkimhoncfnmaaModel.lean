/- Written by a program of ours (wip/eng/gen.py): the plain models of the functions. -/
import Derived.Test.YtfbkimhoncfnmaaEngU
namespace Go.Proofs.Ytfbkimhoncfnmaa.M
open Go Go.Proofs.Ytfbkimhoncfnmaa.E
set_option linter.unusedVariables false
structure SPeriod where
  At : Int
  Limit : Int
def dSPeriod : SPeriod := ⟨0, 0⟩
structure SSpan where
  From : Int
  To : Int
def dSSpan : SSpan := ⟨0, 0⟩
structure SProfile where
  ID : Int
  Level : Int
  Purpose : Int
  Kind : Int
  Conn : Int
  Txn : ByteArray
  Span_From : Int
  Span_To : Int
  Start : Int
  Duration : Int
  Periods : List SPeriod
def dSProfile : SProfile := ⟨0, 0, 0, 0, 0, ByteArray.empty, 0, 0, 0, 0, []⟩
structure SComposed where
  L : List SProfile
  Conn : Int
  Txn : ByteArray
  Start : Int
  T : Int
  Length : Int
def dSComposed : SComposed := ⟨[], 0, ByteArray.empty, 0, 0, 0⟩
structure SStep where
  At : Int
  Value : Int
def dSStep : SStep := ⟨0, 0⟩
structure SLead where
  id : Int
  level : Int
  limit : Int
def dSLead : SLead := ⟨0, 0, 0⟩
def profile_numbers (F : Nat) (a0_p : SProfile) : Option Bool :=
  bif decide (1 ≤ a0_p.ID) then (bif decide (a0_p.ID ≤ 2147483647) then (bif decide (0 ≤ a0_p.Level) then (bif decide (a0_p.Level ≤ 8) then (bif decide (1 ≤ a0_p.Purpose) then (bif decide (a0_p.Purpose ≤ 3) then (bif decide (1 ≤ a0_p.Kind) then (bif decide (a0_p.Kind ≤ 4) then (bif decide (0 ≤ a0_p.Conn) then (some (decide (a0_p.Conn ≤ 32))) else (some false)) else (some false)) else (some false)) else (some false)) else (some false)) else (some false)) else (some false)) else (some false)) else (some false)
def ident_value_p1  : Option Int :=
  some ((-1))
def ident_value_p8 (a0_r : Int) (t13_4 : Bool) : Option Int :=
  bif t13_4 then (some (IntKind.wrap .i64 (IntKind.wrap .i64 (IntKind.wrap .i32 (a0_r - 65)) + 10))) else (bif decide (97 ≤ a0_r) then (bif decide (a0_r ≤ 122) then (some (IntKind.wrap .i64 (IntKind.wrap .i64 (IntKind.wrap .i32 (a0_r - 97)) + 10))) else (ident_value_p1)) else (ident_value_p1))
def ident_value_p10 (a0_r : Int) (t3_2 : Bool) : Option Int :=
  bif t3_2 then (some (IntKind.wrap .i64 (IntKind.wrap .i32 (a0_r - 48)))) else (bif decide (65 ≤ a0_r) then (ident_value_p8 a0_r (decide (a0_r ≤ 90))) else (ident_value_p8 a0_r false))
def ident_value (F : Nat) (a0_r : Int) : Option Int :=
  bif decide (48 ≤ a0_r) then (ident_value_p10 a0_r (decide (a0_r ≤ 57))) else (ident_value_p10 a0_r false)
def ident_Valid_p3  : Option Bool :=
  some true
def ident_Valid_p36 (F : Nat) (a0_s : ByteArray) (pos_17 : Nat) (kl_n_29 : Nat → Option Bool) (t19_31 : Bool) : Option Bool :=
  bif t19_31 then (kl_n_29 (pos_17 + (Utf8.decode a0_s pos_17).2)) else ((ident_value F (((Utf8.decode a0_s pos_17).1 : Int))).bind fun c_33 => bif decide (c_33 < 0) then (some false) else (kl_n_29 (pos_17 + (Utf8.decode a0_s pos_17).2)))
def ident_Valid_b29 (F : Nat) (a0_s : ByteArray) (kl_n_29 : Nat → Option Bool) (pos_17 : Nat) : Option Bool :=
  bif decide (pos_17 < a0_s.size) then (bif decide (((Utf8.decode a0_s pos_17).1 : Int) = 45) then (ident_Valid_p36 F a0_s pos_17 kl_n_29 (decide (((Utf8.decode a0_s pos_17).1 : Int) = 45))) else (bif decide (((Utf8.decode a0_s pos_17).1 : Int) = 95) then (ident_Valid_p36 F a0_s pos_17 kl_n_29 (decide (((Utf8.decode a0_s pos_17).1 : Int) = 95))) else (bif decide (((Utf8.decode a0_s pos_17).1 : Int) = 46) then (ident_Valid_p36 F a0_s pos_17 kl_n_29 (decide (((Utf8.decode a0_s pos_17).1 : Int) = 46))) else (bif decide (((Utf8.decode a0_s pos_17).1 : Int) = 58) then (ident_Valid_p36 F a0_s pos_17 kl_n_29 (decide (((Utf8.decode a0_s pos_17).1 : Int) = 58))) else (ident_Valid_p36 F a0_s pos_17 kl_n_29 (decide (((Utf8.decode a0_s pos_17).1 : Int) = 42))))))) else (ident_Valid_p3)
def ident_Valid_l29 (F : Nat) (a0_s : ByteArray) : Nat → Nat → Option Bool
  | 0, _ => none
  | n + 1, pos_17 => ident_Valid_b29 F a0_s (fun pos_17 => ident_Valid_l29 F a0_s n pos_17) pos_17
def ident_Valid (F : Nat) (a0_s : ByteArray) : Option Bool :=
  bif decide ((a0_s.size : Int) < 1) then (some false) else (bif decide (36 < (a0_s.size : Int)) then (some false) else (ident_Valid_l29 F a0_s F 0))
def profile_times_p5 (a0_p : SProfile) : Option Bool :=
  bif decide (a0_p.Duration = (-1)) then (some true) else (bif decide (1 ≤ a0_p.Duration) then (some (decide (a0_p.Duration ≤ 268435456))) else (some false))
def profile_times_p10 (a0_p : SProfile) : Option Bool :=
  bif decide (a0_p.Start < 0) then (some false) else (bif decide (268435456 < a0_p.Start) then (some false) else (bif decide (a0_p.Kind = 4) then (bif (!decide (a0_p.Start = 0)) then (some false) else (profile_times_p5 a0_p)) else (profile_times_p5 a0_p)))
def profile_times (F : Nat) (a0_p : SProfile) : Option Bool :=
  bif decide (a0_p.Span_From < 0) then (some false) else (bif decide (268435456 < a0_p.Span_From) then (some false) else (bif (!decide (a0_p.Span_To = (-1))) then (bif decide (a0_p.Span_To < a0_p.Span_From) then (some false) else (bif decide (268435456 < a0_p.Span_To) then (some false) else (profile_times_p10 a0_p))) else (profile_times_p10 a0_p)))
def profile_cycle_p2 (days_1 : Int) : Option Int :=
  some (IntKind.wrap .i64 (days_1 * 1440))
def profile_cycle_p4 (days_3 : Int) : Option Int :=
  profile_cycle_p2 (IntKind.wrap .i64 (days_3 + 1))
def profile_cycle_p5  : Option Int :=
  profile_cycle_p4 (IntKind.wrap .i64 (0 + 6))
def profile_cycle (F : Nat) (a0_kind : Int) : Option Int :=
  bif decide (a0_kind = 3) then (profile_cycle_p5) else (bif decide (a0_kind = 2) then (profile_cycle_p4 0) else (profile_cycle_p2 0))
def profile_periods_p2  : Option Int :=
  some 0
def profile_periods_p33 (a0_p : SProfile) (t17_15 : Int) (kl_n_28 : Int → Option Int) : Option Int :=
  bif decide ((a0_p.Periods.getD t17_15.toNat dSPeriod).Limit < 0) then (some 2) else (bif decide (1048576 < (a0_p.Periods.getD t17_15.toNat dSPeriod).Limit) then (some 2) else (kl_n_28 (IntKind.wrap .i64 (t17_15 + 1))))
def profile_periods_p38 (a0_p : SProfile) (greatest_1 : Int) (t17_15 : Int) (kl_n_28 : Int → Option Int) : Option Int :=
  bif decide (0 < t17_15) then (guard ((0 : Int) ≤ IntKind.wrap .i64 (t17_15 - 1) ∧ IntKind.wrap .i64 (t17_15 - 1) < ((a0_p.Periods).length : Int)) (bif decide ((a0_p.Periods.getD t17_15.toNat dSPeriod).At ≤ (a0_p.Periods.getD (IntKind.wrap .i64 (t17_15 - 1)).toNat dSPeriod).At) then (some 1) else (bif decide (greatest_1 < (a0_p.Periods.getD t17_15.toNat dSPeriod).At) then (some 1) else (profile_periods_p33 a0_p t17_15 kl_n_28)))) else (profile_periods_p33 a0_p t17_15 kl_n_28)
def profile_periods_b28 (a0_p : SProfile) (greatest_1 : Int) (kl_n_28 : Int → Option Int) (t17_15 : Int) : Option Int :=
  bif decide (t17_15 < ((a0_p.Periods).length : Int)) then (guard ((0 : Int) ≤ t17_15 ∧ t17_15 < ((a0_p.Periods).length : Int)) (bif decide (t17_15 = 0) then (bif (!decide ((a0_p.Periods.getD t17_15.toNat dSPeriod).At = 0)) then (some 1) else (profile_periods_p38 a0_p greatest_1 t17_15 kl_n_28)) else (profile_periods_p38 a0_p greatest_1 t17_15 kl_n_28))) else (profile_periods_p2)
def profile_periods_l28 (a0_p : SProfile) (greatest_1 : Int) : Nat → Int → Option Int
  | 0, _ => none
  | n + 1, t17_15 => profile_periods_b28 a0_p greatest_1 (fun t17_15 => profile_periods_l28 a0_p greatest_1 n t17_15) t17_15
def profile_periods_p41 (F : Nat) (a0_p : SProfile) (greatest_1 : Int) : Option Int :=
  profile_periods_l28 a0_p greatest_1 F 0
def profile_periods (F : Nat) (a0_p : SProfile) : Option Int :=
  (profile_cycle F a0_p.Kind).bind fun c_42 => bif decide (0 < c_42) then (profile_periods_p41 F a0_p (IntKind.wrap .i64 (c_42 - 1))) else (profile_periods_p41 F a0_p 268435456)
def profile_Valid_p11 (F : Nat) (a0_p : SProfile) : Option Int :=
  (profile_times F a0_p).bind fun c_4 => bif (!c_4) then (some 2) else (bif decide (24 < ((a0_p.Periods).length : Int)) then (some 3) else (bif decide (((a0_p.Periods).length : Int) = 0) then (some 1) else ((profile_periods F a0_p).bind fun c_9 => some c_9)))
def profile_Valid_p14 (F : Nat) (a0_p : SProfile) : Option Int :=
  bif decide (a0_p.Purpose = 1) then (bif decide (a0_p.Kind = 4) then (some 1) else (profile_Valid_p11 F a0_p)) else (profile_Valid_p11 F a0_p)
def profile_Valid_p17 (F : Nat) (a0_p : SProfile) : Option Int :=
  bif decide (a0_p.Purpose = 3) then (bif decide (a0_p.Conn = 0) then (some 1) else (profile_Valid_p14 F a0_p)) else (profile_Valid_p14 F a0_p)
def profile_Valid_p20 (F : Nat) (a0_p : SProfile) : Option Int :=
  bif (!decide (a0_p.Purpose = 3)) then (bif (!(sEq a0_p.Txn ByteArray.empty)) then (some 4) else (profile_Valid_p17 F a0_p)) else (profile_Valid_p17 F a0_p)
def profile_Valid (F : Nat) (a0_p : SProfile) : Option Int :=
  (profile_numbers F a0_p).bind fun c_1 => bif (!c_1) then (some 2) else (bif decide (a0_p.Purpose = 3) then ((ident_Valid F a0_p.Txn).bind fun c_22 => bif (!c_22) then (some 4) else (profile_Valid_p20 F a0_p)) else (profile_Valid_p20 F a0_p))
def slices_Clone_api_Period_api_Period (F : Nat) (a0_s : List SPeriod) : Option (List SPeriod) :=
  guard (((([] : List SPeriod)).length + (a0_s).length) * 16 ≤ 140737488355328 ∧ (([] : List SPeriod)).length + (a0_s).length ≤ 140737488355328) (some ((([] : List SPeriod)) ++ a0_s))
def profile_clone (F : Nat) (a0_p : SProfile) : Option SProfile :=
  (slices_Clone_api_Period_api_Period F a0_p.Periods).bind fun c_1 => some (SProfile.mk a0_p.ID a0_p.Level a0_p.Purpose a0_p.Kind a0_p.Conn a0_p.Txn a0_p.Span_From a0_p.Span_To a0_p.Start a0_p.Duration c_1)
def profile_Put_p9 (F : Nat) (a0_l : List SProfile) (a1_p : SProfile) (o1_4 : List SProfile) : Option ((List SProfile) × Int) :=
  bif decide (16 ≤ ((o1_4).length : Int)) then (some ((a0_l, 3))) else ((profile_clone F a1_p).bind fun c_6 => guard (((o1_4).length + ([c_6]).length) * 112 ≤ 140737488355328 ∧ (o1_4).length + ([c_6]).length ≤ 140737488355328) (some ((o1_4 ++ ([c_6]), 0))))
def profile_Put_p41 (t18_23 : Int) (kl_n_38 : Int → (List SProfile) → Option ((List SProfile) × Int)) (o1_40 : List SProfile) : Option ((List SProfile) × Int) :=
  kl_n_38 (IntKind.wrap .i64 (t18_23 + 1)) o1_40
def profile_Put_p47 (F : Nat) (a0_l : List SProfile) (t18_23 : Int) (o1_24 : List SProfile) (kl_n_38 : Int → (List SProfile) → Option ((List SProfile) × Int)) : Option ((List SProfile) × Int) :=
  (profile_clone F (a0_l.getD t18_23.toNat dSProfile)).bind fun c_44 => guard (((o1_24).length + ([c_44]).length) * 112 ≤ 140737488355328 ∧ (o1_24).length + ([c_44]).length ≤ 140737488355328) (profile_Put_p41 t18_23 kl_n_38 (o1_24 ++ ([c_44])))
def profile_Put_b38 (F : Nat) (a0_l : List SProfile) (a1_p : SProfile) (kl_n_38 : Int → (List SProfile) → Option ((List SProfile) × Int)) (t18_23 : Int) (o1_24 : List SProfile) : Option ((List SProfile) × Int) :=
  bif decide (t18_23 < ((a0_l).length : Int)) then (guard ((0 : Int) ≤ t18_23 ∧ t18_23 < ((a0_l).length : Int)) (bif decide ((a0_l.getD t18_23.toNat dSProfile).ID = a1_p.ID) then (profile_Put_p41 t18_23 kl_n_38 o1_24) else (bif decide ((a0_l.getD t18_23.toNat dSProfile).Purpose = a1_p.Purpose) then (bif decide ((a0_l.getD t18_23.toNat dSProfile).Level = a1_p.Level) then (bif decide ((a0_l.getD t18_23.toNat dSProfile).Conn = a1_p.Conn) then (bif sEq ((a0_l.getD t18_23.toNat dSProfile).Txn) a1_p.Txn then (profile_Put_p41 t18_23 kl_n_38 o1_24) else (profile_Put_p47 F a0_l t18_23 o1_24 kl_n_38)) else (profile_Put_p47 F a0_l t18_23 o1_24 kl_n_38)) else (profile_Put_p47 F a0_l t18_23 o1_24 kl_n_38)) else (profile_Put_p47 F a0_l t18_23 o1_24 kl_n_38)))) else (profile_Put_p9 F a0_l a1_p o1_24)
def profile_Put_l38 (F : Nat) (a0_l : List SProfile) (a1_p : SProfile) : Nat → Int → (List SProfile) → Option ((List SProfile) × Int)
  | 0, _, _ => none
  | n + 1, t18_23, o1_24 => profile_Put_b38 F a0_l a1_p (fun t18_23 o1_24 => profile_Put_l38 F a0_l a1_p n t18_23 o1_24) t18_23 o1_24
def profile_Put (F : Nat) (a0_l : List SProfile) (a1_p : SProfile) : Option ((List SProfile) × Int) :=
  (profile_Valid F a1_p).bind fun c_1 => bif (!decide (c_1 = 0)) then (some ((a0_l, c_1))) else (profile_Put_l38 F a0_l a1_p F 0 (([] : List SProfile)))
def compose_candidates_p2 (o0_1 : List SProfile) : Option (List SProfile) :=
  some o0_1
def compose_candidates_p38 (t12_18 : Int) (kl_n_35 : Int → (List SProfile) → Option (List SProfile)) (o0_37 : List SProfile) : Option (List SProfile) :=
  kl_n_35 (IntKind.wrap .i64 (t12_18 + 1)) o0_37
def compose_candidates_p41 (a0_l : List SProfile) (t12_18 : Int) (o0_19 : List SProfile) (kl_n_35 : Int → (List SProfile) → Option (List SProfile)) : Option (List SProfile) :=
  guard (((o0_19).length + ([a0_l.getD t12_18.toNat dSProfile]).length) * 112 ≤ 140737488355328 ∧ (o0_19).length + ([a0_l.getD t12_18.toNat dSProfile]).length ≤ 140737488355328) (compose_candidates_p38 t12_18 kl_n_35 (o0_19 ++ ([a0_l.getD t12_18.toNat dSProfile])))
def compose_candidates_p45 (a0_l : List SProfile) (a2_txn : ByteArray) (t12_18 : Int) (o0_19 : List SProfile) (kl_n_35 : Int → (List SProfile) → Option (List SProfile)) : Option (List SProfile) :=
  bif sEq a2_txn ByteArray.empty then (bif decide ((a0_l.getD t12_18.toNat dSProfile).Purpose = 3) then (compose_candidates_p38 t12_18 kl_n_35 o0_19) else (bif decide ((a0_l.getD t12_18.toNat dSProfile).Kind = 4) then (compose_candidates_p38 t12_18 kl_n_35 o0_19) else (compose_candidates_p41 a0_l t12_18 o0_19 kl_n_35))) else (compose_candidates_p41 a0_l t12_18 o0_19 kl_n_35)
def compose_candidates_p48 (a0_l : List SProfile) (a2_txn : ByteArray) (t12_18 : Int) (o0_19 : List SProfile) (kl_n_35 : Int → (List SProfile) → Option (List SProfile)) : Option (List SProfile) :=
  bif decide ((a0_l.getD t12_18.toNat dSProfile).Purpose = 3) then (bif (!(sEq ((a0_l.getD t12_18.toNat dSProfile).Txn) a2_txn)) then (compose_candidates_p38 t12_18 kl_n_35 o0_19) else (compose_candidates_p45 a0_l a2_txn t12_18 o0_19 kl_n_35)) else (compose_candidates_p45 a0_l a2_txn t12_18 o0_19 kl_n_35)
def compose_candidates_b35 (a0_l : List SProfile) (a1_conn : Int) (a2_txn : ByteArray) (kl_n_35 : Int → (List SProfile) → Option (List SProfile)) (t12_18 : Int) (o0_19 : List SProfile) : Option (List SProfile) :=
  bif decide (t12_18 < ((a0_l).length : Int)) then (guard ((0 : Int) ≤ t12_18 ∧ t12_18 < ((a0_l).length : Int)) (bif (!decide ((a0_l.getD t12_18.toNat dSProfile).Conn = 0)) then (bif (!decide ((a0_l.getD t12_18.toNat dSProfile).Conn = a1_conn)) then (compose_candidates_p38 t12_18 kl_n_35 o0_19) else (compose_candidates_p48 a0_l a2_txn t12_18 o0_19 kl_n_35)) else (compose_candidates_p48 a0_l a2_txn t12_18 o0_19 kl_n_35))) else (compose_candidates_p2 o0_19)
def compose_candidates_l35 (a0_l : List SProfile) (a1_conn : Int) (a2_txn : ByteArray) : Nat → Int → (List SProfile) → Option (List SProfile)
  | 0, _, _ => none
  | n + 1, t12_18, o0_19 => compose_candidates_b35 a0_l a1_conn a2_txn (fun t12_18 o0_19 => compose_candidates_l35 a0_l a1_conn a2_txn n t12_18 o0_19) t12_18 o0_19
def compose_candidates (F : Nat) (a0_l : List SProfile) (a1_conn : Int) (a2_txn : ByteArray) : Option (List SProfile) :=
  compose_candidates_l35 a0_l a1_conn a2_txn F 0 (([] : List SProfile))
def profile_first (F : Nat) (a0_p : SProfile) (a1_start : Int) : Option Int :=
  bif decide (a0_p.Kind = 4) then (some a1_start) else (some a0_p.Start)
def profile_gap (F : Nat) (a0_from : Int) (a1_to : Int) : Option Int :=
  some (IntKind.wrap .u64 (IntKind.wrap .u64 a1_to - IntKind.wrap .u64 a0_from))
def profile_origin_p5 (o_4 : Int) : Option (Int × Bool) :=
  some ((o_4, true))
def profile_origin (F : Nat) (a0_p : SProfile) (a1_start : Int) (a2_t : Int) : Option (Int × Bool) :=
  (profile_first F a0_p a1_start).bind fun c_1 => bif decide (a2_t < c_1) then (some ((0, false))) else ((profile_cycle F a0_p.Kind).bind fun c_6 => bif decide (0 < c_6) then ((profile_gap F c_1 a2_t).bind fun c_9 => guard (IntKind.wrap .u64 c_6 ≠ 0) (profile_origin_p5 (IntKind.wrap .i64 (a2_t - IntKind.wrap .i64 (Int.tmod c_9 (IntKind.wrap .u64 c_6)))))) else (profile_origin_p5 c_1))
def profile_Limit_p8 (limit_6 : Int) (found_7 : Bool) : Option (Int × Bool) :=
  some ((limit_6, found_7))
def profile_Limit_p30 (t58_18 : Int) (kl_n_26 : Int → Bool → Int → Option (Int × Bool)) (limit_28 : Int) (found_29 : Bool) : Option (Int × Bool) :=
  kl_n_26 limit_28 found_29 (IntKind.wrap .i64 (t58_18 + 1))
def profile_Limit_b26 (a0_p : SProfile) (c_4 : Int) (kl_n_26 : Int → Bool → Int → Option (Int × Bool)) (limit_16 : Int) (found_17 : Bool) (t58_18 : Int) : Option (Int × Bool) :=
  bif decide (t58_18 < ((a0_p.Periods).length : Int)) then (guard ((0 : Int) ≤ t58_18 ∧ t58_18 < ((a0_p.Periods).length : Int)) (bif decide (0 ≤ (a0_p.Periods.getD t58_18.toNat dSPeriod).At) then (bif decide (IntKind.wrap .u64 ((a0_p.Periods.getD t58_18.toNat dSPeriod).At) ≤ c_4) then (profile_Limit_p30 t58_18 kl_n_26 ((a0_p.Periods.getD t58_18.toNat dSPeriod).Limit) true) else (profile_Limit_p30 t58_18 kl_n_26 limit_16 found_17)) else (profile_Limit_p30 t58_18 kl_n_26 limit_16 found_17))) else (profile_Limit_p8 limit_16 found_17)
def profile_Limit_l26 (a0_p : SProfile) (c_4 : Int) : Nat → Int → Bool → Int → Option (Int × Bool)
  | 0, _, _, _ => none
  | n + 1, limit_16, found_17, t58_18 => profile_Limit_b26 a0_p c_4 (fun limit_16 found_17 t58_18 => profile_Limit_l26 a0_p c_4 n limit_16 found_17 t58_18) limit_16 found_17 t58_18
def profile_Limit_p34 (F : Nat) (a0_p : SProfile) (c_4 : Int) : Option (Int × Bool) :=
  profile_Limit_l26 a0_p c_4 F 0 false 0
def profile_Limit_p37 (F : Nat) (a0_p : SProfile) (a1_start : Int) (a2_t : Int) : Option (Int × Bool) :=
  (profile_origin F a0_p a1_start a2_t).bind fun c_1 => bif (!c_1.2) then (some ((0, false))) else ((profile_gap F c_1.1 a2_t).bind fun c_4 => bif (!decide (a0_p.Duration = (-1))) then (bif decide (IntKind.wrap .u64 a0_p.Duration ≤ c_4) then (some ((0, false))) else (profile_Limit_p34 F a0_p c_4)) else (profile_Limit_p34 F a0_p c_4))
def profile_Limit (F : Nat) (a0_p : SProfile) (a1_start : Int) (a2_t : Int) : Option (Int × Bool) :=
  bif decide (a2_t < a0_p.Span_From) then (some ((0, false))) else (bif (!decide (a0_p.Span_To = (-1))) then (bif decide (a0_p.Span_To ≤ a2_t) then (some ((0, false))) else (profile_Limit_p37 F a0_p a1_start a2_t)) else (profile_Limit_p37 F a0_p a1_start a2_t))
def compose_determining_1_1 (F : Nat) (a0_p : SProfile) (a1f0 : Int) (a2f0 : Int) (a3f0 : Int) : Option (Int × Bool) :=
  bif (!decide (a0_p.Purpose = a1f0)) then (some ((0, false))) else ((profile_Limit F a0_p a2f0 a3f0).bind fun c_2 => some ((c_2.1, c_2.2)))
def compose_leading_f1_31_p5 (found_1 : Bool) (b1_2 : Int) (b1_3 : Int) (b1_4 : Int) : Option (SLead × Bool) :=
  some ((SLead.mk b1_2 b1_3 b1_4, found_1))
def compose_leading_f1_31_p41 (t14_17 : Int) (kl_n_35 : Bool → Int → Int → Int → Int → Option (SLead × Bool)) (found_37 : Bool) (b1_38 : Int) (b1_39 : Int) (b1_40 : Int) : Option (SLead × Bool) :=
  kl_n_35 found_37 (IntKind.wrap .i64 (t14_17 + 1)) b1_38 b1_39 b1_40
def compose_leading_f1_31_b35 (F : Nat) (a0_l : List SProfile) (a1f0 : Int) (a1f1 : Int) (a1f2 : Int) (kl_n_35 : Bool → Int → Int → Int → Int → Option (SLead × Bool)) (found_16 : Bool) (t14_17 : Int) (b1_18 : Int) (b1_19 : Int) (b1_20 : Int) : Option (SLead × Bool) :=
  bif decide (t14_17 < ((a0_l).length : Int)) then (guard ((0 : Int) ≤ t14_17 ∧ t14_17 < ((a0_l).length : Int)) ((compose_determining_1_1 F (a0_l.getD t14_17.toNat dSProfile) a1f0 a1f1 a1f2).bind fun c_43 => bif (!c_43.2) then (compose_leading_f1_31_p41 t14_17 kl_n_35 found_16 b1_18 b1_19 b1_20) else (bif (!found_16) then (compose_leading_f1_31_p41 t14_17 kl_n_35 true ((a0_l.getD t14_17.toNat dSProfile).ID) ((a0_l.getD t14_17.toNat dSProfile).Level) c_43.1) else (bif decide (b1_19 < (a0_l.getD t14_17.toNat dSProfile).Level) then (compose_leading_f1_31_p41 t14_17 kl_n_35 true ((a0_l.getD t14_17.toNat dSProfile).ID) ((a0_l.getD t14_17.toNat dSProfile).Level) c_43.1) else (bif decide ((a0_l.getD t14_17.toNat dSProfile).Level = b1_19) then (bif decide (b1_18 < (a0_l.getD t14_17.toNat dSProfile).ID) then (compose_leading_f1_31_p41 t14_17 kl_n_35 true ((a0_l.getD t14_17.toNat dSProfile).ID) ((a0_l.getD t14_17.toNat dSProfile).Level) c_43.1) else (compose_leading_f1_31_p41 t14_17 kl_n_35 found_16 b1_18 b1_19 b1_20)) else (compose_leading_f1_31_p41 t14_17 kl_n_35 found_16 b1_18 b1_19 b1_20)))))) else (compose_leading_f1_31_p5 found_16 b1_18 b1_19 b1_20)
def compose_leading_f1_31_l35 (F : Nat) (a0_l : List SProfile) (a1f0 : Int) (a1f1 : Int) (a1f2 : Int) : Nat → Bool → Int → Int → Int → Int → Option (SLead × Bool)
  | 0, _, _, _, _, _ => none
  | n + 1, found_16, t14_17, b1_18, b1_19, b1_20 => compose_leading_f1_31_b35 F a0_l a1f0 a1f1 a1f2 (fun found_16 t14_17 b1_18 b1_19 b1_20 => compose_leading_f1_31_l35 F a0_l a1f0 a1f1 a1f2 n found_16 t14_17 b1_18 b1_19 b1_20) found_16 t14_17 b1_18 b1_19 b1_20
def compose_leading_f1_31 (F : Nat) (a0_l : List SProfile) (a1f0 : Int) (a1f1 : Int) (a1f2 : Int) : Option (SLead × Bool) :=
  compose_leading_f1_31_l35 F a0_l a1f0 a1f1 a1f2 F false 0 0 0 0
def compose_determining_1 (F : Nat) (a0_purpose : Int) (a1f0 : List SProfile) (a2f0 : Int) (a3f0 : Int) : Option (SLead × Bool) :=
  (compose_leading_f1_31 F a1f0 a0_purpose a2f0 a3f0).bind fun c_1 => some ((SLead.mk c_1.1.id c_1.1.level c_1.1.limit, c_1.2))
def compose_determining_p9 (held_3 : Bool) (b1_4 : Int) (b1_5 : Int) (b1_6 : Int) : Option (SLead × Bool) :=
  some ((SLead.mk b1_4 b1_5 b1_6, held_3))
def compose_determining_p13 (F : Nat) (a0_l : List SProfile) (a1_start : Int) (a2_t : Int) (held_3 : Bool) (b1_4 : Int) (b1_5 : Int) (b1_6 : Int) : Option (SLead × Bool) :=
  (compose_determining_1 F 1 a0_l a1_start a2_t).bind fun c_7 => bif c_7.2 then (bif (!held_3) then (some ((SLead.mk c_7.1.id c_7.1.level c_7.1.limit, true))) else (bif decide (c_7.1.limit ≤ b1_6) then (some ((SLead.mk c_7.1.id c_7.1.level c_7.1.limit, true))) else (compose_determining_p9 held_3 b1_4 b1_5 b1_6))) else (compose_determining_p9 held_3 b1_4 b1_5 b1_6)
def compose_determining (F : Nat) (a0_l : List SProfile) (a1_start : Int) (a2_t : Int) : Option (SLead × Bool) :=
  (compose_determining_1 F 3 a0_l a1_start a2_t).bind fun c_1 => bif (!c_1.2) then ((compose_determining_1 F 2 a0_l a1_start a2_t).bind fun c_15 => compose_determining_p13 F a0_l a1_start a2_t c_15.2 c_15.1.id c_15.1.level c_15.1.limit) else (compose_determining_p13 F a0_l a1_start a2_t c_1.2 c_1.1.id c_1.1.level c_1.1.limit)
def compose_limit (F : Nat) (a0_l : List SProfile) (a1_start : Int) (a2_t : Int) : Option Int :=
  (compose_determining F a0_l a1_start a2_t).bind fun c_1 => bif c_1.2 then (some c_1.1.limit) else (some 1073741824)
def slices_Sort_int_int (F : Nat) (a0_x : List Int) : Option (List Int) :=
  guard (a0_x.length < 4611686018427387904) (some (sortI a0_x))
def profile_changes_p7 (F : Nat) (o0_3 : List Int) : Option (List Int) :=
  (slices_Sort_int_int F o0_3).bind fun c_4 => guard (c_4.length = o0_3.length) (some c_4)
def profile_changes_p68 (t37_37 : Int) (kl_n_64 : Int → Int → (List Int) → Option (List Int)) (o_66 : Int) (o1_67 : List Int) : Option (List Int) :=
  kl_n_64 o_66 (IntKind.wrap .i64 (t37_37 + 1)) o1_67
def profile_changes_p74 (F : Nat) (a0_p : SProfile) (o_36 : Int) (t37_37 : Int) (kl_n_64 : Int → Int → (List Int) → Option (List Int)) (o1_71 : List Int) : Option (List Int) :=
  (profile_cycle F a0_p.Kind).bind fun c_72 => profile_changes_p68 t37_37 kl_n_64 (IntKind.wrap .i64 (o_36 + c_72)) o1_71
def profile_changes_b83 (F : Nat) (a0_p : SProfile) (o_36 : Int) (t37_37 : Int) (kl_n_64 : Int → Int → (List Int) → Option (List Int)) (kl_n_83 : Int → (List Int) → Option (List Int)) (t56_78 : Int) (o1_79 : List Int) : Option (List Int) :=
  bif decide (t56_78 < ((a0_p.Periods).length : Int)) then (guard ((0 : Int) ≤ t56_78 ∧ t56_78 < ((a0_p.Periods).length : Int)) (guard (((o1_79).length + ([IntKind.wrap .i64 (o_36 + (a0_p.Periods.getD t56_78.toNat dSPeriod).At)]).length) * 8 ≤ 140737488355328 ∧ (o1_79).length + ([IntKind.wrap .i64 (o_36 + (a0_p.Periods.getD t56_78.toNat dSPeriod).At)]).length ≤ 140737488355328) (kl_n_83 (IntKind.wrap .i64 (t56_78 + 1)) (o1_79 ++ ([IntKind.wrap .i64 (o_36 + (a0_p.Periods.getD t56_78.toNat dSPeriod).At)]))))) else (profile_changes_p74 F a0_p o_36 t37_37 kl_n_64 o1_79)
def profile_changes_l83 (F : Nat) (a0_p : SProfile) (o_36 : Int) (t37_37 : Int) (kl_n_64 : Int → Int → (List Int) → Option (List Int)) : Nat → Int → (List Int) → Option (List Int)
  | 0, _, _ => none
  | n + 1, t56_78, o1_79 => profile_changes_b83 F a0_p o_36 t37_37 kl_n_64 (fun t56_78 o1_79 => profile_changes_l83 F a0_p o_36 t37_37 kl_n_64 n t56_78 o1_79) t56_78 o1_79
def profile_changes_p87 (F : Nat) (a0_p : SProfile) (o_36 : Int) (t37_37 : Int) (kl_n_64 : Int → Int → (List Int) → Option (List Int)) (o1_70 : List Int) : Option (List Int) :=
  profile_changes_l83 F a0_p o_36 t37_37 kl_n_64 F 0 o1_70
def profile_changes_b64 (F : Nat) (a0_p : SProfile) (kl_n_64 : Int → Int → (List Int) → Option (List Int)) (o_36 : Int) (t37_37 : Int) (o1_38 : List Int) : Option (List Int) :=
  bif decide (t37_37 < 2) then (guard (((o1_38).length + ([o_36]).length) * 8 ≤ 140737488355328 ∧ (o1_38).length + ([o_36]).length ≤ 140737488355328) (bif decide (0 < a0_p.Duration) then (guard (((o1_38 ++ ([o_36])).length + ([IntKind.wrap .i64 (o_36 + a0_p.Duration)]).length) * 8 ≤ 140737488355328 ∧ (o1_38 ++ ([o_36])).length + ([IntKind.wrap .i64 (o_36 + a0_p.Duration)]).length ≤ 140737488355328) (profile_changes_p87 F a0_p o_36 t37_37 kl_n_64 ((o1_38 ++ ([o_36])) ++ ([IntKind.wrap .i64 (o_36 + a0_p.Duration)])))) else (profile_changes_p87 F a0_p o_36 t37_37 kl_n_64 (o1_38 ++ ([o_36]))))) else (profile_changes_p7 F o1_38)
def profile_changes_l64 (F : Nat) (a0_p : SProfile) : Nat → Int → Int → (List Int) → Option (List Int)
  | 0, _, _, _ => none
  | n + 1, o_36, t37_37, o1_38 => profile_changes_b64 F a0_p (fun o_36 t37_37 o1_38 => profile_changes_l64 F a0_p n o_36 t37_37 o1_38) o_36 t37_37 o1_38
def profile_changes (F : Nat) (a0_p : SProfile) (a1_start : Int) (a2_t : Int) : Option (List Int) :=
  (profile_first F a0_p a1_start).bind fun c_1 => bif decide (c_1 ≤ 268435456) then ((profile_origin F a0_p a1_start ((if (if a2_t < a0_p.Span_From then a0_p.Span_From else a2_t) < c_1 then c_1 else (if a2_t < a0_p.Span_From then a0_p.Span_From else a2_t)))).bind fun c_9 => profile_changes_l64 F a0_p F c_9.1 0 ([a0_p.Span_From, a0_p.Span_To])) else (profile_changes_p7 F ([a0_p.Span_From, a0_p.Span_To]))
def profile_Next_p4  : Option Int :=
  some ((-1))
def profile_Next_p32 (t30_18 : Int) (kl_n_30 : Int → Option Int) : Option Int :=
  kl_n_30 (IntKind.wrap .i64 (t30_18 + 1))
def profile_Next_b30 (F : Nat) (a0_p : SProfile) (a1_start : Int) (a2_t : Int) (c_5 : List Int) (kl_n_30 : Int → Option Int) (t30_18 : Int) : Option Int :=
  bif decide (t30_18 < ((c_5).length : Int)) then (guard ((0 : Int) ≤ t30_18 ∧ t30_18 < ((c_5).length : Int)) (bif decide (c_5.getD t30_18.toNat 0 ≤ a2_t) then (profile_Next_p32 t30_18 kl_n_30) else (bif decide (268435456 < c_5.getD t30_18.toNat 0) then (profile_Next_p32 t30_18 kl_n_30) else ((profile_Limit F a0_p a1_start (IntKind.wrap .i64 (c_5.getD t30_18.toNat 0 - 1))).bind fun c_36 => (profile_Limit F a0_p a1_start (c_5.getD t30_18.toNat 0)).bind fun c_38 => bif (!decide (c_36.1 = c_38.1)) then (some (c_5.getD t30_18.toNat 0)) else (bif (!(c_36.2 == c_38.2)) then (some (c_5.getD t30_18.toNat 0)) else (profile_Next_p32 t30_18 kl_n_30)))))) else (profile_Next_p4)
def profile_Next_l30 (F : Nat) (a0_p : SProfile) (a1_start : Int) (a2_t : Int) (c_5 : List Int) : Nat → Int → Option Int
  | 0, _ => none
  | n + 1, t30_18 => profile_Next_b30 F a0_p a1_start a2_t c_5 (fun t30_18 => profile_Next_l30 F a0_p a1_start a2_t c_5 n t30_18) t30_18
def profile_Next (F : Nat) (a0_p : SProfile) (a1_start : Int) (a2_t : Int) : Option Int :=
  bif decide (a2_t < 0) then (some ((-1))) else (bif decide (268435456 < a2_t) then (some ((-1))) else (bif decide (24 < ((a0_p.Periods).length : Int)) then (some ((-1))) else ((profile_changes F a0_p a1_start a2_t).bind fun c_5 => profile_Next_l30 F a0_p a1_start a2_t c_5 F 0)))
def compose_pause_p2 (best_1 : Int) : Option Int :=
  some best_1
def compose_pause_p70 (t15_35 : Int) (kl_n_67 : Int → Int → Option Int) (best_69 : Int) : Option Int :=
  kl_n_67 best_69 (IntKind.wrap .i64 (t15_35 + 1))
def compose_pause_p90 (t42_80 : Int) (kl_n_87 : Int → Int → Option Int) (best_89 : Int) : Option Int :=
  kl_n_87 best_89 (IntKind.wrap .i64 (t42_80 + 1))
def compose_pause_b87 (a0_l : List SProfile) (a2_t : Int) (t15_35 : Int) (kl_n_67 : Int → Int → Option Int) (b0_72 : Int) (kl_n_87 : Int → Int → Option Int) (best_79 : Int) (t42_80 : Int) : Option Int :=
  bif decide (t42_80 < 3) then (guard ((0 : Int) ≤ t42_80 ∧ t42_80 < 3) (bif decide (a2_t < ([b0_72, (a0_l.getD t15_35.toNat dSProfile).Span_To, (a0_l.getD t15_35.toNat dSProfile).Start] : List Int).getD t42_80.toNat 0) then (bif decide (([b0_72, (a0_l.getD t15_35.toNat dSProfile).Span_To, (a0_l.getD t15_35.toNat dSProfile).Start] : List Int).getD t42_80.toNat 0 < best_79) then (compose_pause_p90 t42_80 kl_n_87 (([b0_72, (a0_l.getD t15_35.toNat dSProfile).Span_To, (a0_l.getD t15_35.toNat dSProfile).Start] : List Int).getD t42_80.toNat 0)) else (compose_pause_p90 t42_80 kl_n_87 best_79)) else (compose_pause_p90 t42_80 kl_n_87 best_79))) else (compose_pause_p70 t15_35 kl_n_67 best_79)
def compose_pause_l87 (a0_l : List SProfile) (a2_t : Int) (t15_35 : Int) (kl_n_67 : Int → Int → Option Int) (b0_72 : Int) : Nat → Int → Int → Option Int
  | 0, _, _ => none
  | n + 1, best_79, t42_80 => compose_pause_b87 a0_l a2_t t15_35 kl_n_67 b0_72 (fun best_79 t42_80 => compose_pause_l87 a0_l a2_t t15_35 kl_n_67 b0_72 n best_79 t42_80) best_79 t42_80
def compose_pause_p94 (F : Nat) (a0_l : List SProfile) (a2_t : Int) (best_34 : Int) (t15_35 : Int) (kl_n_67 : Int → Int → Option Int) (b0_72 : Int) : Option Int :=
  compose_pause_l87 a0_l a2_t t15_35 kl_n_67 b0_72 F best_34 0
def compose_pause_b67 (F : Nat) (a0_l : List SProfile) (a1_start : Int) (a2_t : Int) (kl_n_67 : Int → Int → Option Int) (best_34 : Int) (t15_35 : Int) : Option Int :=
  bif decide (t15_35 < ((a0_l).length : Int)) then (guard ((0 : Int) ≤ t15_35 ∧ t15_35 < ((a0_l).length : Int)) (bif (!decide ((a0_l.getD t15_35.toNat dSProfile).Kind = 2)) then (bif (!decide ((a0_l.getD t15_35.toNat dSProfile).Kind = 3)) then ((profile_Next F (a0_l.getD t15_35.toNat dSProfile) a1_start a2_t).bind fun c_97 => compose_pause_p94 F a0_l a2_t best_34 t15_35 kl_n_67 c_97) else (compose_pause_p94 F a0_l a2_t best_34 t15_35 kl_n_67 ((a0_l.getD t15_35.toNat dSProfile).Span_From))) else (compose_pause_p94 F a0_l a2_t best_34 t15_35 kl_n_67 ((a0_l.getD t15_35.toNat dSProfile).Span_From)))) else (compose_pause_p2 best_34)
def compose_pause_l67 (F : Nat) (a0_l : List SProfile) (a1_start : Int) (a2_t : Int) : Nat → Int → Int → Option Int
  | 0, _, _ => none
  | n + 1, best_34, t15_35 => compose_pause_b67 F a0_l a1_start a2_t (fun best_34 t15_35 => compose_pause_l67 F a0_l a1_start a2_t n best_34 t15_35) best_34 t15_35
def compose_pause (F : Nat) (a0_l : List SProfile) (a1_start : Int) (a2_t : Int) : Option Int :=
  compose_pause_l67 F a0_l a1_start a2_t F 268435457 0
def compose_earliest_p3 (best_1 : Int) (o0_2 : List Int) : Option (Int × (List Int)) :=
  some ((best_1, o0_2))
def compose_earliest_p38 (best_17 : Int) (t14_18 : Int) (kl_n_33 : Int → Int → (List Int) → Option (Int × (List Int))) (o0_36 : List Int) : Option (Int × (List Int)) :=
  guard ((0 : Int) ≤ t14_18 ∧ t14_18 < ((o0_36).length : Int)) (kl_n_33 ((if o0_36.getD t14_18.toNat 0 < best_17 then o0_36.getD t14_18.toNat 0 else best_17)) (IntKind.wrap .i64 (t14_18 + 1)) o0_36)
def compose_earliest_b33 (F : Nat) (a0_l : List SProfile) (a1_start : Int) (a2_t : Int) (kl_n_33 : Int → Int → (List Int) → Option (Int × (List Int))) (best_17 : Int) (t14_18 : Int) (o0_19 : List Int) : Option (Int × (List Int)) :=
  bif decide (t14_18 < ((a0_l).length : Int)) then (guard ((0 : Int) ≤ t14_18 ∧ t14_18 < ((a0_l).length : Int)) (guard ((0 : Int) ≤ t14_18 ∧ t14_18 < ((o0_19).length : Int)) (bif decide (o0_19.getD t14_18.toNat 0 ≤ a2_t) then ((profile_Next F (a0_l.getD t14_18.toNat dSProfile) a1_start a2_t).bind fun c_41 => guard ((0 : Int) ≤ t14_18 ∧ t14_18 < ((o0_19).length : Int)) (guard ((0 : Int) ≤ t14_18 ∧ t14_18 < ((o0_19.set t14_18.toNat c_41).length : Int)) (bif decide ((o0_19.set t14_18.toNat c_41).getD t14_18.toNat 0 < 0) then (guard ((0 : Int) ≤ t14_18 ∧ t14_18 < ((o0_19.set t14_18.toNat c_41).length : Int)) (compose_earliest_p38 best_17 t14_18 kl_n_33 ((o0_19.set t14_18.toNat c_41).set t14_18.toNat 268435457))) else (compose_earliest_p38 best_17 t14_18 kl_n_33 (o0_19.set t14_18.toNat c_41))))) else (compose_earliest_p38 best_17 t14_18 kl_n_33 o0_19)))) else (compose_earliest_p3 best_17 o0_19)
def compose_earliest_l33 (F : Nat) (a0_l : List SProfile) (a1_start : Int) (a2_t : Int) : Nat → Int → Int → (List Int) → Option (Int × (List Int))
  | 0, _, _, _ => none
  | n + 1, best_17, t14_18, o0_19 => compose_earliest_b33 F a0_l a1_start a2_t (fun best_17 t14_18 o0_19 => compose_earliest_l33 F a0_l a1_start a2_t n best_17 t14_18 o0_19) best_17 t14_18 o0_19
def compose_earliest (F : Nat) (a0_l : List SProfile) (a1_start : Int) (a2_t : Int) (a3_ahead : List Int) : Option (Int × (List Int)) :=
  compose_earliest_l33 F a0_l a1_start a2_t F 268435457 0 a3_ahead
def compose_next_p5  : Option Int :=
  some ((-1))
def compose_next_p63 (F : Nat) (a0_l : List SProfile) (a1_start : Int) (a3_last : Int) (begin_28 : Int) (end_29 : Int) (kl_n_48 : Int → Int → Int → (List Int) → Option Int) (c_50 : Int × (List Int)) (c_53 : Int) : Option Int :=
  bif decide (a3_last < c_53) then (some ((-1))) else ((compose_limit F a0_l a1_start c_53).bind fun c_55 => (compose_limit F a0_l a1_start (IntKind.wrap .i64 (c_53 - 1))).bind fun c_57 => bif (!decide (c_55 = c_57)) then (some c_53) else (bif decide (c_53 = end_29) then ((compose_pause F a0_l a1_start c_53).bind fun c_61 => kl_n_48 c_53 c_53 c_61 c_50.2) else (kl_n_48 c_53 begin_28 end_29 c_50.2)))
def compose_next_b48 (F : Nat) (a0_l : List SProfile) (a1_start : Int) (a3_last : Int) (kl_n_48 : Int → Int → Int → (List Int) → Option Int) (t_27 : Int) (begin_28 : Int) (end_29 : Int) (o0_30 : List Int) : Option Int :=
  bif decide (t_27 < a3_last) then ((compose_earliest F a0_l a1_start t_27 o0_30).bind fun c_50 => guard (c_50.2.length = o0_30.length) (bif decide (end_29 < c_50.1) then (compose_next_p63 F a0_l a1_start a3_last begin_28 end_29 kl_n_48 c_50 end_29) else (bif decide (10080 < IntKind.wrap .i64 (c_50.1 - begin_28)) then (compose_next_p63 F a0_l a1_start a3_last begin_28 end_29 kl_n_48 c_50 end_29) else (compose_next_p63 F a0_l a1_start a3_last begin_28 end_29 kl_n_48 c_50 c_50.1)))) else (compose_next_p5)
def compose_next_l48 (F : Nat) (a0_l : List SProfile) (a1_start : Int) (a3_last : Int) : Nat → Int → Int → Int → (List Int) → Option Int
  | 0, _, _, _, _ => none
  | n + 1, t_27, begin_28, end_29, o0_30 => compose_next_b48 F a0_l a1_start a3_last (fun t_27 begin_28 end_29 o0_30 => compose_next_l48 F a0_l a1_start a3_last n t_27 begin_28 end_29 o0_30) t_27 begin_28 end_29 o0_30
def compose_next_p66 (F : Nat) (a0_l : List SProfile) (a1_start : Int) (a3_last : Int) (t_1 : Int) : Option Int :=
  (compose_pause F a0_l a1_start t_1).bind fun c_2 => guard ((0 : Int) ≤ ((a0_l).length : Int) ∧ ((8 : Nat) : Int) * (((a0_l).length : Int)) ≤ 281474976710656 ∧ (((a0_l).length : Int) : Int) ≤ 281474976710656) (compose_next_l48 F a0_l a1_start a3_last F t_1 t_1 c_2 (List.replicate (((a0_l).length : Int)).toNat (0 : Int)))
def compose_next_p68 (F : Nat) (a0_l : List SProfile) (a1_start : Int) (a3_last : Int) : Option Int :=
  compose_next_p66 F a0_l a1_start a3_last 0
def compose_next (F : Nat) (a0_l : List SProfile) (a1_start : Int) (a2_t : Int) (a3_last : Int) : Option Int :=
  bif decide (a2_t < 0) then (bif decide (0 ≤ a3_last) then ((compose_limit F a0_l a1_start 0).bind fun c_70 => (compose_limit F a0_l a1_start ((-1))).bind fun c_72 => bif (!decide (c_70 = c_72)) then (some 0) else (compose_next_p68 F a0_l a1_start a3_last)) else (compose_next_p68 F a0_l a1_start a3_last)) else (compose_next_p66 F a0_l a1_start a3_last a2_t)
def compose_Series_p8 (o0_7 : List SStep) : Option ((List SStep) × Int) :=
  some ((o0_7, 0))
def compose_Series_b27 (F : Nat) (a3_start : Int) (a4_s : SSpan) (c_5 : List SProfile) (kl_n_27 : Int → (List SStep) → Option ((List SStep) × Int)) (t_17 : Int) (o1_18 : List SStep) : Option ((List SStep) × Int) :=
  bif decide (0 ≤ t_17) then (bif decide (t_17 < a4_s.To) then (bif decide (((o1_18).length : Int) = 512) then (some (([], 3))) else ((compose_limit F c_5 a3_start t_17).bind fun c_31 => guard (((o1_18).length + ([SStep.mk t_17 c_31]).length) * 16 ≤ 140737488355328 ∧ (o1_18).length + ([SStep.mk t_17 c_31]).length ≤ 140737488355328) ((compose_next F c_5 a3_start t_17 (IntKind.wrap .i64 (a4_s.To - 1))).bind fun c_34 => kl_n_27 c_34 (o1_18 ++ ([SStep.mk t_17 c_31]))))) else (compose_Series_p8 o1_18)) else (compose_Series_p8 o1_18)
def compose_Series_l27 (F : Nat) (a3_start : Int) (a4_s : SSpan) (c_5 : List SProfile) : Nat → Int → (List SStep) → Option ((List SStep) × Int)
  | 0, _, _ => none
  | n + 1, t_17, o1_18 => compose_Series_b27 F a3_start a4_s c_5 (fun t_17 o1_18 => compose_Series_l27 F a3_start a4_s c_5 n t_17 o1_18) t_17 o1_18
def compose_Series (F : Nat) (a0_l : List SProfile) (a1_conn : Int) (a2_txn : ByteArray) (a3_start : Int) (a4_s : SSpan) : Option ((List SStep) × Int) :=
  bif decide (a4_s.From < 0) then (some (([], 2))) else (bif decide (a4_s.To < a4_s.From) then (some (([], 2))) else (bif decide (268435456 < a4_s.To) then (some (([], 2))) else (bif decide (20160 < IntKind.wrap .i64 (a4_s.To - a4_s.From)) then (some (([], 2))) else ((compose_candidates F a0_l a1_conn a2_txn).bind fun c_5 => compose_Series_l27 F a3_start a4_s c_5 F a4_s.From (([] : List SStep))))))
def series_isTime (F : Nat) (a0_t : Int) : Option Bool :=
  bif decide (0 ≤ a0_t) then (some (decide (a0_t ≤ 268435456))) else (some false)
def series_isValue (F : Nat) (a0_v : Int) : Option Bool :=
  bif decide ((-1099511627776) ≤ a0_v) then (some (decide (a0_v ≤ 1099511627776))) else (some false)
def series_Valid_p2  : Option Int :=
  some 0
def series_Valid_p30 (t10_15 : Int) (kl_n_28 : Int → Option Int) : Option Int :=
  kl_n_28 (IntKind.wrap .i64 (t10_15 + 1))
def series_Valid_b28 (F : Nat) (a0_l : List SStep) (kl_n_28 : Int → Option Int) (t10_15 : Int) : Option Int :=
  bif decide (t10_15 < ((a0_l).length : Int)) then (guard ((0 : Int) ≤ t10_15 ∧ t10_15 < ((a0_l).length : Int)) ((series_isTime F ((a0_l.getD t10_15.toNat dSStep).At)).bind fun c_32 => bif (!c_32) then (some 2) else ((series_isValue F ((a0_l.getD t10_15.toNat dSStep).Value)).bind fun c_35 => bif (!c_35) then (some 2) else (bif decide (0 < t10_15) then (guard ((0 : Int) ≤ IntKind.wrap .i64 (t10_15 - 1) ∧ IntKind.wrap .i64 (t10_15 - 1) < ((a0_l).length : Int)) (bif decide ((a0_l.getD t10_15.toNat dSStep).At ≤ (a0_l.getD (IntKind.wrap .i64 (t10_15 - 1)).toNat dSStep).At) then (some 1) else (series_Valid_p30 t10_15 kl_n_28))) else (series_Valid_p30 t10_15 kl_n_28))))) else (series_Valid_p2)
def series_Valid_l28 (F : Nat) (a0_l : List SStep) : Nat → Int → Option Int
  | 0, _ => none
  | n + 1, t10_15 => series_Valid_b28 F a0_l (fun t10_15 => series_Valid_l28 F a0_l n t10_15) t10_15
def series_Valid (F : Nat) (a0_l : List SStep) : Option Int :=
  bif decide (512 < ((a0_l).length : Int)) then (some 3) else (series_Valid_l28 F a0_l F 0)
def series_isSpan (F : Nat) (a0_s : SSpan) : Option Bool :=
  bif decide (0 ≤ a0_s.From) then (bif decide (a0_s.From ≤ a0_s.To) then (some (decide (a0_s.To ≤ 268435456))) else (some false)) else (some false)
def series_Energy_p11 (high_7 : Int) (low_8 : Int) : Option (Int × Int) :=
  bif decide (IntKind.wrap .i64 (high_7 + (low_8 / 2 ^ min (20 : Int).toNat (IntKind.bits .i64))) < (-8796093022208)) then (some ((0, 20))) else (bif decide (8796093022207 < IntKind.wrap .i64 (high_7 + (low_8 / 2 ^ min (20 : Int).toNat (IntKind.bits .i64)))) then (some ((0, 20))) else (some ((IntKind.wrap .i64 (IntKind.wrap .i64 (IntKind.wrap .i64 (high_7 + (low_8 / 2 ^ min (20 : Int).toNat (IntKind.bits .i64))) * 2 ^ min (20 : Int).toNat (IntKind.bits .i64)) + iAnd .i64 low_8 1048575), 0))))
def series_Energy_p39 (t23_24 : Int) (kl_n_35 : Int → Int → Int → Option (Int × Int)) (high_37 : Int) (low_38 : Int) : Option (Int × Int) :=
  kl_n_35 high_37 low_38 (IntKind.wrap .i64 (t23_24 + 1))
def series_Energy_p43 (a0_l : List SStep) (a1_s : SSpan) (high_22 : Int) (low_23 : Int) (t23_24 : Int) (kl_n_35 : Int → Int → Int → Option (Int × Int)) (to_41 : Int) : Option (Int × Int) :=
  bif decide (to_41 ≤ (if (a0_l.getD t23_24.toNat dSStep).At < a1_s.From then a1_s.From else (a0_l.getD t23_24.toNat dSStep).At)) then (series_Energy_p39 t23_24 kl_n_35 high_22 low_23) else (series_Energy_p39 t23_24 kl_n_35 (IntKind.wrap .i64 (high_22 + IntKind.wrap .i64 (((a0_l.getD t23_24.toNat dSStep).Value / 2 ^ min (20 : Int).toNat (IntKind.bits .i64)) * IntKind.wrap .i64 (to_41 - (if (a0_l.getD t23_24.toNat dSStep).At < a1_s.From then a1_s.From else (a0_l.getD t23_24.toNat dSStep).At))))) (IntKind.wrap .i64 (low_23 + IntKind.wrap .i64 (iAnd .i64 ((a0_l.getD t23_24.toNat dSStep).Value) 1048575 * IntKind.wrap .i64 (to_41 - (if (a0_l.getD t23_24.toNat dSStep).At < a1_s.From then a1_s.From else (a0_l.getD t23_24.toNat dSStep).At))))))
def series_Energy_b35 (a0_l : List SStep) (a1_s : SSpan) (kl_n_35 : Int → Int → Int → Option (Int × Int)) (high_22 : Int) (low_23 : Int) (t23_24 : Int) : Option (Int × Int) :=
  bif decide (t23_24 < ((a0_l).length : Int)) then (guard ((0 : Int) ≤ t23_24 ∧ t23_24 < ((a0_l).length : Int)) (bif decide (IntKind.wrap .i64 (t23_24 + 1) < ((a0_l).length : Int)) then (guard ((0 : Int) ≤ IntKind.wrap .i64 (t23_24 + 1) ∧ IntKind.wrap .i64 (t23_24 + 1) < ((a0_l).length : Int)) (series_Energy_p43 a0_l a1_s high_22 low_23 t23_24 kl_n_35 ((if (a0_l.getD (IntKind.wrap .i64 (t23_24 + 1)).toNat dSStep).At < a1_s.To then (a0_l.getD (IntKind.wrap .i64 (t23_24 + 1)).toNat dSStep).At else a1_s.To)))) else (series_Energy_p43 a0_l a1_s high_22 low_23 t23_24 kl_n_35 a1_s.To))) else (series_Energy_p11 high_22 low_23)
def series_Energy_l35 (a0_l : List SStep) (a1_s : SSpan) : Nat → Int → Int → Int → Option (Int × Int)
  | 0, _, _, _ => none
  | n + 1, high_22, low_23, t23_24 => series_Energy_b35 a0_l a1_s (fun high_22 low_23 t23_24 => series_Energy_l35 a0_l a1_s n high_22 low_23 t23_24) high_22 low_23 t23_24
def series_Energy (F : Nat) (a0_l : List SStep) (a1_s : SSpan) : Option (Int × Int) :=
  (series_Valid F a0_l).bind fun c_1 => bif (!decide (c_1 = 0)) then (some ((0, c_1))) else ((series_isSpan F a1_s).bind fun c_4 => bif (!c_4) then (some ((0, 2))) else (series_Energy_l35 a0_l a1_s F 0 0 0))
def compose_At (F : Nat) (a0_l : List SProfile) (a1_conn : Int) (a2_txn : ByteArray) (a3_start : Int) (a4_t : Int) : Option Int :=
  (compose_candidates F a0_l a1_conn a2_txn).bind fun c_1 => (compose_limit F c_1 a3_start a4_t).bind fun c_3 => some c_3
def profile_Clear_p3 (a0_l : List SProfile) (o0_1 : List SProfile) : Option ((List SProfile) × Int) :=
  bif decide (((o0_1).length : Int) = ((a0_l).length : Int)) then (some ((a0_l, 8))) else (some ((o0_1, 0)))
def profile_Clear_p25 (t11_12 : Int) (kl_n_22 : Int → (List SProfile) → Option ((List SProfile) × Int)) (o0_24 : List SProfile) : Option ((List SProfile) × Int) :=
  kl_n_22 (IntKind.wrap .i64 (t11_12 + 1)) o0_24
def profile_Clear_b22 (F : Nat) (a0_l : List SProfile) (a1_id : Int) (kl_n_22 : Int → (List SProfile) → Option ((List SProfile) × Int)) (t11_12 : Int) (o0_13 : List SProfile) : Option ((List SProfile) × Int) :=
  bif decide (t11_12 < ((a0_l).length : Int)) then (guard ((0 : Int) ≤ t11_12 ∧ t11_12 < ((a0_l).length : Int)) (bif (!decide ((a0_l.getD t11_12.toNat dSProfile).ID = a1_id)) then ((profile_clone F (a0_l.getD t11_12.toNat dSProfile)).bind fun c_28 => guard (((o0_13).length + ([c_28]).length) * 112 ≤ 140737488355328 ∧ (o0_13).length + ([c_28]).length ≤ 140737488355328) (profile_Clear_p25 t11_12 kl_n_22 (o0_13 ++ ([c_28])))) else (profile_Clear_p25 t11_12 kl_n_22 o0_13))) else (profile_Clear_p3 a0_l o0_13)
def profile_Clear_l22 (F : Nat) (a0_l : List SProfile) (a1_id : Int) : Nat → Int → (List SProfile) → Option ((List SProfile) × Int)
  | 0, _, _ => none
  | n + 1, t11_12, o0_13 => profile_Clear_b22 F a0_l a1_id (fun t11_12 o0_13 => profile_Clear_l22 F a0_l a1_id n t11_12 o0_13) t11_12 o0_13
def profile_Clear (F : Nat) (a0_l : List SProfile) (a1_id : Int) : Option ((List SProfile) × Int) :=
  profile_Clear_l22 F a0_l a1_id F 0 (([] : List SProfile))
def compose_Why (F : Nat) (a0_l : List SProfile) (a1_conn : Int) (a2_txn : ByteArray) (a3_start : Int) (a4_t : Int) : Option (Int × Bool) :=
  (compose_candidates F a0_l a1_conn a2_txn).bind fun c_1 => (compose_determining F c_1 a3_start a4_t).bind fun c_3 => some ((c_3.1.id, c_3.2))
def chargenettop_ProfilesCompose_p32 (F : Nat) : Option Bool :=
  (compose_At F (([] : List SProfile)) 1 ByteArray.empty 5 9).bind fun c_30 => some (decide (c_30 = 1073741824))
def chargenettop_ProfilesCompose_p48 (t_39 : Int) (kl_n_46 : Int → Option Bool) : Option Bool :=
  kl_n_46 (IntKind.wrap .i64 (t_39 + 1))
def chargenettop_ProfilesCompose_b46 (F : Nat) (a0_x : SComposed) (a1_clear : Int) (l_8 : List SProfile) (c_26 : (List SProfile) × Int) (kl_n_46 : Int → Option Bool) (t_39 : Int) : Option Bool :=
  bif decide (t_39 < IntKind.wrap .i64 (a0_x.T + a0_x.Length)) then ((compose_Why F c_26.1 a0_x.Conn a0_x.Txn a0_x.Start t_39).bind fun c_49 => bif c_49.2 then (bif decide (c_49.1 = (l_8.getD (Int.tmod (IntKind.wrap .i64 a1_clear) (((l_8).length : Int))).toNat dSProfile).ID) then (some false) else (chargenettop_ProfilesCompose_p48 t_39 kl_n_46)) else (chargenettop_ProfilesCompose_p48 t_39 kl_n_46)) else (chargenettop_ProfilesCompose_p32 F)
def chargenettop_ProfilesCompose_l46 (F : Nat) (a0_x : SComposed) (a1_clear : Int) (l_8 : List SProfile) (c_26 : (List SProfile) × Int) : Nat → Int → Option Bool
  | 0, _ => none
  | n + 1, t_39 => chargenettop_ProfilesCompose_b46 F a0_x a1_clear l_8 c_26 (fun t_39 => chargenettop_ProfilesCompose_l46 F a0_x a1_clear l_8 c_26 n t_39) t_39
def chargenettop_ProfilesCompose_p53 (F : Nat) (a0_x : SComposed) (a1_clear : Int) (l_8 : List SProfile) (c_12 : Int × Int) (sum_15 : Int) : Option Bool :=
  bif (!decide (c_12.1 = sum_15)) then (bif decide (c_12.1 = sum_15) then ((compose_At F (([] : List SProfile)) 1 ByteArray.empty 5 9).bind fun c_18 => some (decide (c_18 = 1073741824))) else (some false)) else (bif decide (((l_8).length : Int) = 0) then (bif decide (c_12.1 = sum_15) then ((compose_At F (([] : List SProfile)) 1 ByteArray.empty 5 9).bind fun c_22 => some (decide (c_22 = 1073741824))) else (some false)) else (guard (((l_8).length : Int) ≠ 0) (guard ((0 : Int) ≤ Int.tmod (IntKind.wrap .i64 a1_clear) (((l_8).length : Int)) ∧ Int.tmod (IntKind.wrap .i64 a1_clear) (((l_8).length : Int)) < ((l_8).length : Int)) ((profile_Clear F l_8 ((l_8.getD (Int.tmod (IntKind.wrap .i64 a1_clear) (((l_8).length : Int))).toNat dSProfile).ID)).bind fun c_26 => bif (!decide (c_26.2 = 0)) then (some false) else (bif (!decide (((c_26.1).length : Int) = IntKind.wrap .i64 (((l_8).length : Int) - 1))) then (some false) else (chargenettop_ProfilesCompose_l46 F a0_x a1_clear l_8 c_26 F a0_x.T))))))
def chargenettop_ProfilesCompose_b62 (F : Nat) (a0_x : SComposed) (a1_clear : Int) (l_8 : List SProfile) (c_12 : Int × Int) (kl_n_62 : Int → Int → Option Bool) (sum_57 : Int) (t_58 : Int) : Option Bool :=
  bif decide (t_58 < IntKind.wrap .i64 (a0_x.T + a0_x.Length)) then ((compose_At F l_8 a0_x.Conn a0_x.Txn a0_x.Start t_58).bind fun c_64 => kl_n_62 (IntKind.wrap .i64 (sum_57 + c_64)) (IntKind.wrap .i64 (t_58 + 1))) else (chargenettop_ProfilesCompose_p53 F a0_x a1_clear l_8 c_12 sum_57)
def chargenettop_ProfilesCompose_l62 (F : Nat) (a0_x : SComposed) (a1_clear : Int) (l_8 : List SProfile) (c_12 : Int × Int) : Nat → Int → Int → Option Bool
  | 0, _, _ => none
  | n + 1, sum_57, t_58 => chargenettop_ProfilesCompose_b62 F a0_x a1_clear l_8 c_12 (fun sum_57 t_58 => chargenettop_ProfilesCompose_l62 F a0_x a1_clear l_8 c_12 n sum_57 t_58) sum_57 t_58
def chargenettop_ProfilesCompose_p66 (F : Nat) (a0_x : SComposed) (a1_clear : Int) (l_8 : List SProfile) : Option Bool :=
  (compose_Series F l_8 a0_x.Conn a0_x.Txn a0_x.Start (SSpan.mk a0_x.T (IntKind.wrap .i64 (a0_x.T + a0_x.Length)))).bind fun c_9 => bif (!decide (c_9.2 = 0)) then (some (decide (c_9.2 = 3))) else ((series_Energy F c_9.1 (SSpan.mk a0_x.T (IntKind.wrap .i64 (a0_x.T + a0_x.Length)))).bind fun c_12 => bif (!decide (c_12.2 = 0)) then (some false) else (chargenettop_ProfilesCompose_l62 F a0_x a1_clear l_8 c_12 F 0 a0_x.T))
def chargenettop_ProfilesCompose_p120 (t58_92 : Int) (t59_93 : Int) (kl_n_117 : (List SProfile) → Int → Int → Option Bool) (l_119 : List SProfile) : Option Bool :=
  kl_n_117 l_119 t58_92 (IntKind.wrap .i64 (t59_93 + 1))
def chargenettop_ProfilesCompose_p128 (F : Nat) (a0_x : SComposed) (l_91 : List SProfile) (t58_92 : Int) (t59_93 : Int) (kl_n_117 : (List SProfile) → Int → Int → Option Bool) : Option Bool :=
  (profile_Valid F (a0_x.L.getD t59_93.toNat dSProfile)).bind fun c_122 => bif (!decide (c_122 = 0)) then (some true) else ((profile_Put F l_91 (a0_x.L.getD t59_93.toNat dSProfile)).bind fun c_125 => bif (!decide (c_125.2 = 0)) then (some false) else (chargenettop_ProfilesCompose_p120 t58_92 t59_93 kl_n_117 c_125.1))
def chargenettop_ProfilesCompose_b137 (F : Nat) (a0_x : SComposed) (l_91 : List SProfile) (t58_92 : Int) (t59_93 : Int) (kl_n_117 : (List SProfile) → Int → Int → Option Bool) (kl_n_137 : Int → Option Bool) (t69_133 : Int) : Option Bool :=
  bif decide (t69_133 < ((subL a0_x.L 0 (t59_93 : Int).toNat).length : Int)) then (guard ((0 : Int) ≤ t69_133 ∧ t69_133 < ((subL a0_x.L 0 (t59_93 : Int).toNat).length : Int)) (bif decide (((subL a0_x.L 0 (t59_93 : Int).toNat).getD t69_133.toNat dSProfile).ID = (a0_x.L.getD t59_93.toNat dSProfile).ID) then (some true) else (kl_n_137 (IntKind.wrap .i64 (t69_133 + 1))))) else (chargenettop_ProfilesCompose_p128 F a0_x l_91 t58_92 t59_93 kl_n_117)
def chargenettop_ProfilesCompose_l137 (F : Nat) (a0_x : SComposed) (l_91 : List SProfile) (t58_92 : Int) (t59_93 : Int) (kl_n_117 : (List SProfile) → Int → Int → Option Bool) : Nat → Int → Option Bool
  | 0, _ => none
  | n + 1, t69_133 => chargenettop_ProfilesCompose_b137 F a0_x l_91 t58_92 t59_93 kl_n_117 (fun t69_133 => chargenettop_ProfilesCompose_l137 F a0_x l_91 t58_92 t59_93 kl_n_117 n t69_133) t69_133
def chargenettop_ProfilesCompose_b117 (F : Nat) (a0_x : SComposed) (a1_clear : Int) (kl_n_117 : (List SProfile) → Int → Int → Option Bool) (l_91 : List SProfile) (t58_92 : Int) (t59_93 : Int) : Option Bool :=
  bif decide (t59_93 < t58_92) then (guard ((0 : Int) ≤ t59_93 ∧ t59_93 < ((a0_x.L).length : Int)) (guard ((0 : Int) ≤ t59_93 ∧ t59_93 ≤ ((a0_x.L).length : Int)) (chargenettop_ProfilesCompose_l137 F a0_x l_91 t58_92 t59_93 kl_n_117 F 0))) else (chargenettop_ProfilesCompose_p66 F a0_x a1_clear l_91)
def chargenettop_ProfilesCompose_l117 (F : Nat) (a0_x : SComposed) (a1_clear : Int) : Nat → (List SProfile) → Int → Int → Option Bool
  | 0, _, _, _ => none
  | n + 1, l_91, t58_92, t59_93 => chargenettop_ProfilesCompose_b117 F a0_x a1_clear (fun l_91 t58_92 t59_93 => chargenettop_ProfilesCompose_l117 F a0_x a1_clear n l_91 t58_92 t59_93) l_91 t58_92 t59_93
def chargenettop_ProfilesCompose (F : Nat) (a0_x : SComposed) (a1_clear : Int) : Option Bool :=
  bif decide (8 < ((a0_x.L).length : Int)) then (some true) else (bif decide (a0_x.Length < 0) then (some true) else (bif decide (300 < a0_x.Length) then (some true) else (bif decide (a0_x.T < 0) then (some true) else (bif decide (1000000 < a0_x.T) then (some true) else (bif decide (a0_x.Start < 0) then (some true) else (bif decide (1000000 < a0_x.Start) then (some true) else (chargenettop_ProfilesCompose_l117 F a0_x a1_clear F ([]) (((a0_x.L).length : Int)) 0)))))))
end Go.Proofs.Ytfbkimhoncfnmaa.M
