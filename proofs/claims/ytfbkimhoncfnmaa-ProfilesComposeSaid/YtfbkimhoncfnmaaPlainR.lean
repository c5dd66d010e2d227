/- The reference of chapter 15, as a program of ours wrote it for another seat: plain functions, by which the program is understood here. -/
import Derived.Test.YtfbkimhoncfnmaaRead
namespace Go.Proofs.Ytfbkimhoncfnmaa.M
open Go Go.Proofs.Ytfbkimhoncfnmaa.E Go.Proofs.Ytfbkimhoncfnmaa.W
set_option linter.unusedVariables false
def chargenetref15_first (F : Nat) (a0_p : SProfile) : Option Bool :=
  bif decide (1 ≤ a0_p.ID) then (bif decide (a0_p.ID ≤ 2147483647) then (bif decide (0 ≤ a0_p.Level) then (bif decide (a0_p.Level ≤ 8) then (bif decide (1 ≤ a0_p.Purpose) then (bif decide (a0_p.Purpose ≤ 3) then (bif decide (1 ≤ a0_p.Kind) then (bif decide (a0_p.Kind ≤ 4) then (bif decide (0 ≤ a0_p.Conn) then (some (decide (a0_p.Conn ≤ 32))) else (some false)) else (some false)) else (some false)) else (some false)) else (some false)) else (some false)) else (some false)) else (some false)) else (some false)
def chargenetref01_Capital_p1 (a0_c : Int) : Option Int :=
  some a0_c
def chargenetref01_Capital (F : Nat) (a0_c : Int) : Option Int :=
  bif decide (97 ≤ a0_c) then (bif decide (a0_c ≤ 122) then (some (IntKind.wrap .u8 (a0_c - 32))) else (chargenetref01_Capital_p1 a0_c)) else (chargenetref01_Capital_p1 a0_c)
def chargenetref01_Value_p1  : Option Int :=
  some ((-1))
def chargenetref01_Value_b13 (F : Nat) (a0_c : Int) (kl_n_13 : Int → Option Int) (v_7 : Int) : Option Int :=
  bif decide (v_7 < 36) then (guard ((0 : Int) ≤ v_7 ∧ v_7 < ((ByteArray.mk #[48, 49, 50, 51, 52, 53, 54, 55, 56, 57, 65, 66, 67, 68, 69, 70, 71, 72, 73, 74, 75, 76, 77, 78, 79, 80, 81, 82, 83, 84, 85, 86, 87, 88, 89, 90]).size : Int)) ((chargenetref01_Capital F a0_c).bind fun c_16 => bif decide (sGet (ByteArray.mk #[48, 49, 50, 51, 52, 53, 54, 55, 56, 57, 65, 66, 67, 68, 69, 70, 71, 72, 73, 74, 75, 76, 77, 78, 79, 80, 81, 82, 83, 84, 85, 86, 87, 88, 89, 90]) v_7.toNat = c_16) then (some v_7) else (kl_n_13 (IntKind.wrap .i64 (v_7 + 1))))) else (chargenetref01_Value_p1)
def chargenetref01_Value_l13 (F : Nat) (a0_c : Int) : Nat → Int → Option Int
  | 0, _ => none
  | n + 1, v_7 => chargenetref01_Value_b13 F a0_c (fun v_7 => chargenetref01_Value_l13 F a0_c n v_7) v_7
def chargenetref01_Value (F : Nat) (a0_c : Int) : Option Int :=
  chargenetref01_Value_l13 F a0_c F 0
def chargenetref01_Valid_p3  : Option Bool :=
  some true
def chargenetref01_Valid_p29 (i_15 : Int) (kl_n_27 : Int → Option Bool) : Option Bool :=
  kl_n_27 (IntKind.wrap .i64 (i_15 + 1))
def chargenetref01_Valid_b27 (F : Nat) (a0_s : ByteArray) (kl_n_27 : Int → Option Bool) (i_15 : Int) : Option Bool :=
  bif decide (i_15 < (a0_s.size : Int)) then (guard ((0 : Int) ≤ i_15 ∧ i_15 < (a0_s.size : Int)) ((chargenetref01_Value F (sGet a0_s i_15.toNat)).bind fun c_31 => bif decide (c_31 < 0) then (bif (!decide (sGet a0_s i_15.toNat = 45)) then (bif (!decide (sGet a0_s i_15.toNat = 95)) then (bif (!decide (sGet a0_s i_15.toNat = 46)) then (bif (!decide (sGet a0_s i_15.toNat = 58)) then (bif (!decide (sGet a0_s i_15.toNat = 42)) then (some false) else (chargenetref01_Valid_p29 i_15 kl_n_27)) else (chargenetref01_Valid_p29 i_15 kl_n_27)) else (chargenetref01_Valid_p29 i_15 kl_n_27)) else (chargenetref01_Valid_p29 i_15 kl_n_27)) else (chargenetref01_Valid_p29 i_15 kl_n_27)) else (chargenetref01_Valid_p29 i_15 kl_n_27))) else (chargenetref01_Valid_p3)
def chargenetref01_Valid_l27 (F : Nat) (a0_s : ByteArray) : Nat → Int → Option Bool
  | 0, _ => none
  | n + 1, i_15 => chargenetref01_Valid_b27 F a0_s (fun i_15 => chargenetref01_Valid_l27 F a0_s n i_15) i_15
def chargenetref01_Valid (F : Nat) (a0_s : ByteArray) : Option Bool :=
  bif decide ((a0_s.size : Int) < 1) then (some false) else (bif decide (36 < (a0_s.size : Int)) then (some false) else (chargenetref01_Valid_l27 F a0_s F 0))
def chargenetref15_times_p3 (a0_p : SProfile) : Option Bool :=
  bif decide (a0_p.Duration = (-1)) then (some true) else (bif decide (1 ≤ a0_p.Duration) then (some (decide (a0_p.Duration ≤ 268435456))) else (some false))
def chargenetref15_times_p8 (a0_p : SProfile) : Option Bool :=
  bif decide (a0_p.Start < 0) then (some false) else (bif decide (268435456 < a0_p.Start) then (some false) else (bif decide (a0_p.Kind = 4) then (bif (!decide (a0_p.Start = 0)) then (some false) else (chargenetref15_times_p3 a0_p)) else (chargenetref15_times_p3 a0_p)))
def chargenetref15_times (F : Nat) (a0_p : SProfile) : Option Bool :=
  bif decide (a0_p.Span_From < 0) then (some false) else (bif decide (268435456 < a0_p.Span_From) then (some false) else (bif (!decide (a0_p.Span_To = (-1))) then (bif decide (a0_p.Span_To < a0_p.Span_From) then (some false) else (bif decide (268435456 < a0_p.Span_To) then (some false) else (chargenetref15_times_p8 a0_p))) else (chargenetref15_times_p8 a0_p)))
def chargenetref15_last (F : Nat) (a0_kind : Int) : Option Int :=
  bif decide (a0_kind = 2) then (some 1439) else (bif decide (a0_kind = 3) then (some 10079) else (some 268435456))
def chargenetref15_Valid_p9  : Option Int :=
  some 0
def chargenetref15_Valid_p54 (a0_p : SProfile) (i_29 : Int) (kl_n_49 : Int → Option Int) : Option Int :=
  bif decide ((a0_p.Periods.getD i_29.toNat dSPeriod).Limit < 0) then (some 2) else (bif decide (1048576 < (a0_p.Periods.getD i_29.toNat dSPeriod).Limit) then (some 2) else (kl_n_49 (IntKind.wrap .i64 (i_29 + 1))))
def chargenetref15_Valid_b49 (F : Nat) (a0_p : SProfile) (kl_n_49 : Int → Option Int) (i_29 : Int) : Option Int :=
  bif decide (i_29 < ((a0_p.Periods).length : Int)) then (guard ((0 : Int) ≤ i_29 ∧ i_29 < ((a0_p.Periods).length : Int)) (bif decide (i_29 = 0) then (bif (!decide ((a0_p.Periods.getD i_29.toNat dSPeriod).At = 0)) then (some 1) else (bif decide (0 < i_29) then (guard ((0 : Int) ≤ IntKind.wrap .i64 (i_29 - 1) ∧ IntKind.wrap .i64 (i_29 - 1) < ((a0_p.Periods).length : Int)) (bif decide ((a0_p.Periods.getD i_29.toNat dSPeriod).At ≤ (a0_p.Periods.getD (IntKind.wrap .i64 (i_29 - 1)).toNat dSPeriod).At) then (some 1) else ((chargenetref15_last F a0_p.Kind).bind fun c_60 => bif decide (c_60 < (a0_p.Periods.getD i_29.toNat dSPeriod).At) then (some 1) else (chargenetref15_Valid_p54 a0_p i_29 kl_n_49)))) else (chargenetref15_Valid_p54 a0_p i_29 kl_n_49))) else (bif decide (0 < i_29) then (guard ((0 : Int) ≤ IntKind.wrap .i64 (i_29 - 1) ∧ IntKind.wrap .i64 (i_29 - 1) < ((a0_p.Periods).length : Int)) (bif decide ((a0_p.Periods.getD i_29.toNat dSPeriod).At ≤ (a0_p.Periods.getD (IntKind.wrap .i64 (i_29 - 1)).toNat dSPeriod).At) then (some 1) else ((chargenetref15_last F a0_p.Kind).bind fun c_66 => bif decide (c_66 < (a0_p.Periods.getD i_29.toNat dSPeriod).At) then (some 1) else (chargenetref15_Valid_p54 a0_p i_29 kl_n_49)))) else (chargenetref15_Valid_p54 a0_p i_29 kl_n_49)))) else (chargenetref15_Valid_p9)
def chargenetref15_Valid_l49 (F : Nat) (a0_p : SProfile) : Nat → Int → Option Int
  | 0, _ => none
  | n + 1, i_29 => chargenetref15_Valid_b49 F a0_p (fun i_29 => chargenetref15_Valid_l49 F a0_p n i_29) i_29
def chargenetref15_Valid_p69 (F : Nat) (a0_p : SProfile) : Option Int :=
  (chargenetref15_times F a0_p).bind fun c_4 => bif (!c_4) then (some 2) else (bif decide (24 < ((a0_p.Periods).length : Int)) then (some 3) else (bif decide (((a0_p.Periods).length : Int) = 0) then (some 1) else (chargenetref15_Valid_l49 F a0_p F 0)))
def chargenetref15_Valid_p76 (F : Nat) (a0_p : SProfile) : Option Int :=
  bif decide (a0_p.Purpose = 3) then (bif decide (a0_p.Conn = 0) then (some 1) else (bif decide (a0_p.Purpose = 1) then (bif decide (a0_p.Kind = 4) then (some 1) else (chargenetref15_Valid_p69 F a0_p)) else (chargenetref15_Valid_p69 F a0_p))) else (bif decide (a0_p.Purpose = 1) then (bif decide (a0_p.Kind = 4) then (some 1) else (chargenetref15_Valid_p69 F a0_p)) else (chargenetref15_Valid_p69 F a0_p))
def chargenetref15_Valid (F : Nat) (a0_p : SProfile) : Option Int :=
  (chargenetref15_first F a0_p).bind fun c_1 => bif (!c_1) then (some 2) else (bif decide (a0_p.Purpose = 3) then ((chargenetref01_Valid F a0_p.Txn).bind fun c_78 => bif (!c_78) then (some 4) else (bif (!decide (a0_p.Purpose = 3)) then (bif (!(sEq a0_p.Txn ByteArray.empty)) then (some 4) else (chargenetref15_Valid_p76 F a0_p)) else (chargenetref15_Valid_p76 F a0_p))) else (bif (!decide (a0_p.Purpose = 3)) then (bif (!(sEq a0_p.Txn ByteArray.empty)) then (some 4) else (chargenetref15_Valid_p76 F a0_p)) else (chargenetref15_Valid_p76 F a0_p)))
def chargenetref15_cycle (F : Nat) (a0_kind : Int) : Option Int :=
  bif decide (a0_kind = 2) then (some 1440) else (bif decide (a0_kind = 3) then (some 10080) else (some 0))
def chargenetref15_origin_p4 (o_3 : Int) : Option (Int × Bool) :=
  some ((o_3, true))
def chargenetref15_origin_p9 (F : Nat) (a0_p : SProfile) (a2_t : Int) (o_1 : Int) : Option (Int × Bool) :=
  bif decide (a2_t < o_1) then (some ((0, false))) else ((chargenetref15_cycle F a0_p.Kind).bind fun c_5 => bif decide (0 < c_5) then (guard (c_5 ≠ 0) (chargenetref15_origin_p4 (IntKind.wrap .i64 (a2_t - Int.tmod (IntKind.wrap .i64 (a2_t - o_1)) c_5)))) else (chargenetref15_origin_p4 o_1))
def chargenetref15_origin (F : Nat) (a0_p : SProfile) (a1_start : Int) (a2_t : Int) : Option (Int × Bool) :=
  bif decide (a0_p.Kind = 4) then (chargenetref15_origin_p9 F a0_p a2_t a1_start) else (chargenetref15_origin_p9 F a0_p a2_t a0_p.Start)
def chargenetref15_Limit_p4 (n_3 : Int) : Option (Int × Bool) :=
  some ((n_3, true))
def chargenetref15_Limit_p22 (i_12 : Int) (kl_n_19 : Int → Int → Option (Int × Bool)) (n_21 : Int) : Option (Int × Bool) :=
  kl_n_19 n_21 (IntKind.wrap .i64 (i_12 + 1))
def chargenetref15_Limit_b19 (a0_p : SProfile) (a2_t : Int) (c_1 : Int × Bool) (kl_n_19 : Int → Int → Option (Int × Bool)) (n_11 : Int) (i_12 : Int) : Option (Int × Bool) :=
  bif decide (i_12 < ((a0_p.Periods).length : Int)) then (guard ((0 : Int) ≤ i_12 ∧ i_12 < ((a0_p.Periods).length : Int)) (bif decide (IntKind.wrap .u64 ((a0_p.Periods.getD i_12.toNat dSPeriod).At) ≤ IntKind.wrap .u64 (IntKind.wrap .u64 a2_t - IntKind.wrap .u64 c_1.1)) then (guard ((0 : Int) ≤ i_12 ∧ i_12 < ((a0_p.Periods).length : Int)) (chargenetref15_Limit_p22 i_12 kl_n_19 ((a0_p.Periods.getD i_12.toNat dSPeriod).Limit))) else (chargenetref15_Limit_p22 i_12 kl_n_19 n_11))) else (chargenetref15_Limit_p4 n_11)
def chargenetref15_Limit_l19 (a0_p : SProfile) (a2_t : Int) (c_1 : Int × Bool) : Nat → Int → Int → Option (Int × Bool)
  | 0, _, _ => none
  | n + 1, n_11, i_12 => chargenetref15_Limit_b19 a0_p a2_t c_1 (fun n_11 i_12 => chargenetref15_Limit_l19 a0_p a2_t c_1 n n_11 i_12) n_11 i_12
def chargenetref15_Limit_p26 (F : Nat) (a0_p : SProfile) (a2_t : Int) (c_1 : Int × Bool) : Option (Int × Bool) :=
  chargenetref15_Limit_l19 a0_p a2_t c_1 F 0 0
def chargenetref15_Limit_p30 (F : Nat) (a0_p : SProfile) (a1_start : Int) (a2_t : Int) : Option (Int × Bool) :=
  (chargenetref15_origin F a0_p a1_start a2_t).bind fun c_1 => bif (!c_1.2) then (some ((0, false))) else (bif (!decide (a0_p.Duration = (-1))) then (bif decide (IntKind.wrap .u64 a0_p.Duration ≤ IntKind.wrap .u64 (IntKind.wrap .u64 a2_t - IntKind.wrap .u64 c_1.1)) then (some ((0, false))) else (chargenetref15_Limit_p26 F a0_p a2_t c_1)) else (chargenetref15_Limit_p26 F a0_p a2_t c_1))
def chargenetref15_Limit (F : Nat) (a0_p : SProfile) (a1_start : Int) (a2_t : Int) : Option (Int × Bool) :=
  bif decide (a2_t < a0_p.Span_From) then (some ((0, false))) else (bif (!decide (a0_p.Span_To = (-1))) then (bif decide (a0_p.Span_To ≤ a2_t) then (some ((0, false))) else (chargenetref15_Limit_p30 F a0_p a1_start a2_t)) else (chargenetref15_Limit_p30 F a0_p a1_start a2_t))
end Go.Proofs.Ytfbkimhoncfnmaa.M
