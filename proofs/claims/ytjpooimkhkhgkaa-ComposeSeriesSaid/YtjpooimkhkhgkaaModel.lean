/- Written by a program of ours (wip/eng/gen.py): the plain models of the functions. -/
import Derived.Test.YtjpooimkhkhgkaaEngT
namespace Go.Proofs.Ytjpooimkhkhgkaa.M
open Go Go.Proofs.Ytjpooimkhkhgkaa.E
set_option linter.unusedVariables false
structure SPeriod where
  At : Int
  Limit : Int
def dSPeriod : SPeriod := ⟨0, 0⟩
structure SSpan where
  From : Int
  To : Int
def dSSpan : SSpan := ⟨0, 0⟩
structure SProfile where
  ID : Int
  Level : Int
  Purpose : Int
  Kind : Int
  Conn : Int
  Txn : ByteArray
  Span_From : Int
  Span_To : Int
  Start : Int
  Duration : Int
  Periods : List SPeriod
def dSProfile : SProfile := ⟨0, 0, 0, 0, 0, ByteArray.empty, 0, 0, 0, 0, []⟩
structure SQuery where
  L : List SProfile
  Conn : Int
  Txn : ByteArray
  Start : Int
  T : Int
  Length : Int
def dSQuery : SQuery := ⟨[], 0, ByteArray.empty, 0, 0, 0⟩
structure SLead where
  id : Int
  level : Int
  limit : Int
def dSLead : SLead := ⟨0, 0, 0⟩
structure SStep where
  At : Int
  Value : Int
def dSStep : SStep := ⟨0, 0⟩
def chargenetref15_first (F : Nat) (a0_p : SProfile) : Option Bool :=
  bif decide (1 ≤ a0_p.ID) then (bif decide (a0_p.ID ≤ 2147483647) then (bif decide (0 ≤ a0_p.Level) then (bif decide (a0_p.Level ≤ 8) then (bif decide (1 ≤ a0_p.Purpose) then (bif decide (a0_p.Purpose ≤ 3) then (bif decide (1 ≤ a0_p.Kind) then (bif decide (a0_p.Kind ≤ 4) then (bif decide (0 ≤ a0_p.Conn) then (some (decide (a0_p.Conn ≤ 32))) else (some false)) else (some false)) else (some false)) else (some false)) else (some false)) else (some false)) else (some false)) else (some false)) else (some false)
def chargenetref01_Capital_p1 (a0_c : Int) : Option Int :=
  some a0_c
def chargenetref01_Capital (F : Nat) (a0_c : Int) : Option Int :=
  bif decide (97 ≤ a0_c) then (bif decide (a0_c ≤ 122) then (some (IntKind.wrap .u8 (a0_c - 32))) else (chargenetref01_Capital_p1 a0_c)) else (chargenetref01_Capital_p1 a0_c)
def chargenetref01_Value_p1  : Option Int :=
  some ((-1))
def chargenetref01_Value_b13 (F : Nat) (a0_c : Int) (kl_n_13 : Int → Option Int) (v_7 : Int) : Option Int :=
  bif decide (v_7 < 36) then (guard ((0 : Int) ≤ v_7 ∧ v_7 < ((ByteArray.mk #[48, 49, 50, 51, 52, 53, 54, 55, 56, 57, 65, 66, 67, 68, 69, 70, 71, 72, 73, 74, 75, 76, 77, 78, 79, 80, 81, 82, 83, 84, 85, 86, 87, 88, 89, 90]).size : Int)) ((chargenetref01_Capital F a0_c).bind fun c_16 => bif decide (sGet (ByteArray.mk #[48, 49, 50, 51, 52, 53, 54, 55, 56, 57, 65, 66, 67, 68, 69, 70, 71, 72, 73, 74, 75, 76, 77, 78, 79, 80, 81, 82, 83, 84, 85, 86, 87, 88, 89, 90]) v_7.toNat = c_16) then (some v_7) else (kl_n_13 (IntKind.wrap .i64 (v_7 + 1))))) else (chargenetref01_Value_p1)
def chargenetref01_Value_l13 (F : Nat) (a0_c : Int) : Nat → Int → Option Int
  | 0, _ => none
  | n + 1, v_7 => chargenetref01_Value_b13 F a0_c (fun v_7 => chargenetref01_Value_l13 F a0_c n v_7) v_7
def chargenetref01_Value (F : Nat) (a0_c : Int) : Option Int :=
  chargenetref01_Value_l13 F a0_c F 0
def chargenetref01_Valid_p3  : Option Bool :=
  some true
def chargenetref01_Valid_p29 (i_15 : Int) (kl_n_27 : Int → Option Bool) : Option Bool :=
  kl_n_27 (IntKind.wrap .i64 (i_15 + 1))
def chargenetref01_Valid_b27 (F : Nat) (a0_s : ByteArray) (kl_n_27 : Int → Option Bool) (i_15 : Int) : Option Bool :=
  bif decide (i_15 < (a0_s.size : Int)) then (guard ((0 : Int) ≤ i_15 ∧ i_15 < (a0_s.size : Int)) ((chargenetref01_Value F (sGet a0_s i_15.toNat)).bind fun c_31 => bif decide (c_31 < 0) then (bif (!decide (sGet a0_s i_15.toNat = 45)) then (bif (!decide (sGet a0_s i_15.toNat = 95)) then (bif (!decide (sGet a0_s i_15.toNat = 46)) then (bif (!decide (sGet a0_s i_15.toNat = 58)) then (bif (!decide (sGet a0_s i_15.toNat = 42)) then (some false) else (chargenetref01_Valid_p29 i_15 kl_n_27)) else (chargenetref01_Valid_p29 i_15 kl_n_27)) else (chargenetref01_Valid_p29 i_15 kl_n_27)) else (chargenetref01_Valid_p29 i_15 kl_n_27)) else (chargenetref01_Valid_p29 i_15 kl_n_27)) else (chargenetref01_Valid_p29 i_15 kl_n_27))) else (chargenetref01_Valid_p3)
def chargenetref01_Valid_l27 (F : Nat) (a0_s : ByteArray) : Nat → Int → Option Bool
  | 0, _ => none
  | n + 1, i_15 => chargenetref01_Valid_b27 F a0_s (fun i_15 => chargenetref01_Valid_l27 F a0_s n i_15) i_15
def chargenetref01_Valid (F : Nat) (a0_s : ByteArray) : Option Bool :=
  bif decide ((a0_s.size : Int) < 1) then (some false) else (bif decide (36 < (a0_s.size : Int)) then (some false) else (chargenetref01_Valid_l27 F a0_s F 0))
def chargenetref15_times_p3 (a0_p : SProfile) : Option Bool :=
  bif decide (a0_p.Duration = (-1)) then (some true) else (bif decide (1 ≤ a0_p.Duration) then (some (decide (a0_p.Duration ≤ 268435456))) else (some false))
def chargenetref15_times_p8 (a0_p : SProfile) : Option Bool :=
  bif decide (a0_p.Start < 0) then (some false) else (bif decide (268435456 < a0_p.Start) then (some false) else (bif decide (a0_p.Kind = 4) then (bif (!decide (a0_p.Start = 0)) then (some false) else (chargenetref15_times_p3 a0_p)) else (chargenetref15_times_p3 a0_p)))
def chargenetref15_times (F : Nat) (a0_p : SProfile) : Option Bool :=
  bif decide (a0_p.Span_From < 0) then (some false) else (bif decide (268435456 < a0_p.Span_From) then (some false) else (bif (!decide (a0_p.Span_To = (-1))) then (bif decide (a0_p.Span_To < a0_p.Span_From) then (some false) else (bif decide (268435456 < a0_p.Span_To) then (some false) else (chargenetref15_times_p8 a0_p))) else (chargenetref15_times_p8 a0_p)))
def chargenetref15_last (F : Nat) (a0_kind : Int) : Option Int :=
  bif decide (a0_kind = 2) then (some 1439) else (bif decide (a0_kind = 3) then (some 10079) else (some 268435456))
def chargenetref15_Valid_p9  : Option Int :=
  some 0
def chargenetref15_Valid_p54 (a0_p : SProfile) (i_29 : Int) (kl_n_49 : Int → Option Int) : Option Int :=
  bif decide ((a0_p.Periods.getD i_29.toNat dSPeriod).Limit < 0) then (some 2) else (bif decide (1048576 < (a0_p.Periods.getD i_29.toNat dSPeriod).Limit) then (some 2) else (kl_n_49 (IntKind.wrap .i64 (i_29 + 1))))
def chargenetref15_Valid_b49 (F : Nat) (a0_p : SProfile) (kl_n_49 : Int → Option Int) (i_29 : Int) : Option Int :=
  bif decide (i_29 < ((a0_p.Periods).length : Int)) then (guard ((0 : Int) ≤ i_29 ∧ i_29 < ((a0_p.Periods).length : Int)) (bif decide (i_29 = 0) then (bif (!decide ((a0_p.Periods.getD i_29.toNat dSPeriod).At = 0)) then (some 1) else (bif decide (0 < i_29) then (guard ((0 : Int) ≤ IntKind.wrap .i64 (i_29 - 1) ∧ IntKind.wrap .i64 (i_29 - 1) < ((a0_p.Periods).length : Int)) (bif decide ((a0_p.Periods.getD i_29.toNat dSPeriod).At ≤ (a0_p.Periods.getD (IntKind.wrap .i64 (i_29 - 1)).toNat dSPeriod).At) then (some 1) else ((chargenetref15_last F a0_p.Kind).bind fun c_60 => bif decide (c_60 < (a0_p.Periods.getD i_29.toNat dSPeriod).At) then (some 1) else (chargenetref15_Valid_p54 a0_p i_29 kl_n_49)))) else (chargenetref15_Valid_p54 a0_p i_29 kl_n_49))) else (bif decide (0 < i_29) then (guard ((0 : Int) ≤ IntKind.wrap .i64 (i_29 - 1) ∧ IntKind.wrap .i64 (i_29 - 1) < ((a0_p.Periods).length : Int)) (bif decide ((a0_p.Periods.getD i_29.toNat dSPeriod).At ≤ (a0_p.Periods.getD (IntKind.wrap .i64 (i_29 - 1)).toNat dSPeriod).At) then (some 1) else ((chargenetref15_last F a0_p.Kind).bind fun c_66 => bif decide (c_66 < (a0_p.Periods.getD i_29.toNat dSPeriod).At) then (some 1) else (chargenetref15_Valid_p54 a0_p i_29 kl_n_49)))) else (chargenetref15_Valid_p54 a0_p i_29 kl_n_49)))) else (chargenetref15_Valid_p9)
def chargenetref15_Valid_l49 (F : Nat) (a0_p : SProfile) : Nat → Int → Option Int
  | 0, _ => none
  | n + 1, i_29 => chargenetref15_Valid_b49 F a0_p (fun i_29 => chargenetref15_Valid_l49 F a0_p n i_29) i_29
def chargenetref15_Valid_p69 (F : Nat) (a0_p : SProfile) : Option Int :=
  (chargenetref15_times F a0_p).bind fun c_4 => bif (!c_4) then (some 2) else (bif decide (24 < ((a0_p.Periods).length : Int)) then (some 3) else (bif decide (((a0_p.Periods).length : Int) = 0) then (some 1) else (chargenetref15_Valid_l49 F a0_p F 0)))
def chargenetref15_Valid_p76 (F : Nat) (a0_p : SProfile) : Option Int :=
  bif decide (a0_p.Purpose = 3) then (bif decide (a0_p.Conn = 0) then (some 1) else (bif decide (a0_p.Purpose = 1) then (bif decide (a0_p.Kind = 4) then (some 1) else (chargenetref15_Valid_p69 F a0_p)) else (chargenetref15_Valid_p69 F a0_p))) else (bif decide (a0_p.Purpose = 1) then (bif decide (a0_p.Kind = 4) then (some 1) else (chargenetref15_Valid_p69 F a0_p)) else (chargenetref15_Valid_p69 F a0_p))
def chargenetref15_Valid (F : Nat) (a0_p : SProfile) : Option Int :=
  (chargenetref15_first F a0_p).bind fun c_1 => bif (!c_1) then (some 2) else (bif decide (a0_p.Purpose = 3) then ((chargenetref01_Valid F a0_p.Txn).bind fun c_78 => bif (!c_78) then (some 4) else (bif (!decide (a0_p.Purpose = 3)) then (bif (!(sEq a0_p.Txn ByteArray.empty)) then (some 4) else (chargenetref15_Valid_p76 F a0_p)) else (chargenetref15_Valid_p76 F a0_p))) else (bif (!decide (a0_p.Purpose = 3)) then (bif (!(sEq a0_p.Txn ByteArray.empty)) then (some 4) else (chargenetref15_Valid_p76 F a0_p)) else (chargenetref15_Valid_p76 F a0_p)))
def chargenetlaw16_Good_p8  : Option Bool :=
  some true
def chargenetlaw16_Good_p48 (t44_27 : Int) (kl_n_46 : Int → Option Bool) : Option Bool :=
  kl_n_46 (IntKind.wrap .i64 (t44_27 + 1))
def chargenetlaw16_Good_b61 (a0_q : SQuery) (t44_27 : Int) (kl_n_46 : Int → Option Bool) (kl_n_61 : Int → Option Bool) (t57_57 : Int) : Option Bool :=
  bif decide (t57_57 < ((subL a0_q.L 0 (t44_27 : Int).toNat).length : Int)) then (guard ((0 : Int) ≤ t57_57 ∧ t57_57 < ((subL a0_q.L 0 (t44_27 : Int).toNat).length : Int)) (bif decide (((subL a0_q.L 0 (t44_27 : Int).toNat).getD t57_57.toNat dSProfile).ID = (a0_q.L.getD t44_27.toNat dSProfile).ID) then (some false) else (kl_n_61 (IntKind.wrap .i64 (t57_57 + 1))))) else (chargenetlaw16_Good_p48 t44_27 kl_n_46)
def chargenetlaw16_Good_l61 (a0_q : SQuery) (t44_27 : Int) (kl_n_46 : Int → Option Bool) : Nat → Int → Option Bool
  | 0, _ => none
  | n + 1, t57_57 => chargenetlaw16_Good_b61 a0_q t44_27 kl_n_46 (fun t57_57 => chargenetlaw16_Good_l61 a0_q t44_27 kl_n_46 n t57_57) t57_57
def chargenetlaw16_Good_b46 (F : Nat) (a0_q : SQuery) (kl_n_46 : Int → Option Bool) (t44_27 : Int) : Option Bool :=
  bif decide (t44_27 < ((a0_q.L).length : Int)) then (guard ((0 : Int) ≤ t44_27 ∧ t44_27 < ((a0_q.L).length : Int)) ((chargenetref15_Valid F (a0_q.L.getD t44_27.toNat dSProfile)).bind fun c_50 => bif (!decide (c_50 = 0)) then (some false) else (guard ((0 : Int) ≤ t44_27 ∧ t44_27 ≤ ((a0_q.L).length : Int)) (chargenetlaw16_Good_l61 a0_q t44_27 kl_n_46 F 0)))) else (chargenetlaw16_Good_p8)
def chargenetlaw16_Good_l46 (F : Nat) (a0_q : SQuery) : Nat → Int → Option Bool
  | 0, _ => none
  | n + 1, t44_27 => chargenetlaw16_Good_b46 F a0_q (fun t44_27 => chargenetlaw16_Good_l46 F a0_q n t44_27) t44_27
def chargenetlaw16_Good (F : Nat) (a0_q : SQuery) : Option Bool :=
  bif decide (12 < ((a0_q.L).length : Int)) then (some false) else (bif decide (a0_q.Start < 0) then (some false) else (bif decide (1000000 < a0_q.Start) then (some false) else (bif decide (a0_q.T < 0) then (some false) else (bif decide (1000000 < a0_q.T) then (some false) else (bif decide (a0_q.Length < 0) then (some false) else (bif decide (3000 < a0_q.Length) then (some false) else (chargenetlaw16_Good_l46 F a0_q F 0)))))))
def chargenetlaw16_exampleHolds_1 (F : Nat) (a0_id : Int) (a1_purpose : Int) (a2_limit : Int) (a3_txn : ByteArray) (a4_conn : Int) : Option SProfile :=
  some (SProfile.mk a0_id 0 a1_purpose 1 a4_conn a3_txn 0 ((-1)) 0 ((-1)) ([SPeriod.mk 0 a2_limit]))
def compose_candidates_p2 (o0_1 : List SProfile) : Option (List SProfile) :=
  some o0_1
def compose_candidates_p38 (t12_18 : Int) (kl_n_35 : Int → (List SProfile) → Option (List SProfile)) (o0_37 : List SProfile) : Option (List SProfile) :=
  kl_n_35 (IntKind.wrap .i64 (t12_18 + 1)) o0_37
def compose_candidates_p41 (a0_l : List SProfile) (t12_18 : Int) (o0_19 : List SProfile) (kl_n_35 : Int → (List SProfile) → Option (List SProfile)) : Option (List SProfile) :=
  guard (((o0_19).length + ([a0_l.getD t12_18.toNat dSProfile]).length) * 112 ≤ 140737488355328 ∧ (o0_19).length + ([a0_l.getD t12_18.toNat dSProfile]).length ≤ 140737488355328) (compose_candidates_p38 t12_18 kl_n_35 (o0_19 ++ ([a0_l.getD t12_18.toNat dSProfile])))
def compose_candidates_p45 (a0_l : List SProfile) (a2_txn : ByteArray) (t12_18 : Int) (o0_19 : List SProfile) (kl_n_35 : Int → (List SProfile) → Option (List SProfile)) : Option (List SProfile) :=
  bif sEq a2_txn ByteArray.empty then (bif decide ((a0_l.getD t12_18.toNat dSProfile).Purpose = 3) then (compose_candidates_p38 t12_18 kl_n_35 o0_19) else (bif decide ((a0_l.getD t12_18.toNat dSProfile).Kind = 4) then (compose_candidates_p38 t12_18 kl_n_35 o0_19) else (compose_candidates_p41 a0_l t12_18 o0_19 kl_n_35))) else (compose_candidates_p41 a0_l t12_18 o0_19 kl_n_35)
def compose_candidates_p48 (a0_l : List SProfile) (a2_txn : ByteArray) (t12_18 : Int) (o0_19 : List SProfile) (kl_n_35 : Int → (List SProfile) → Option (List SProfile)) : Option (List SProfile) :=
  bif decide ((a0_l.getD t12_18.toNat dSProfile).Purpose = 3) then (bif (!(sEq ((a0_l.getD t12_18.toNat dSProfile).Txn) a2_txn)) then (compose_candidates_p38 t12_18 kl_n_35 o0_19) else (compose_candidates_p45 a0_l a2_txn t12_18 o0_19 kl_n_35)) else (compose_candidates_p45 a0_l a2_txn t12_18 o0_19 kl_n_35)
def compose_candidates_b35 (a0_l : List SProfile) (a1_conn : Int) (a2_txn : ByteArray) (kl_n_35 : Int → (List SProfile) → Option (List SProfile)) (t12_18 : Int) (o0_19 : List SProfile) : Option (List SProfile) :=
  bif decide (t12_18 < ((a0_l).length : Int)) then (guard ((0 : Int) ≤ t12_18 ∧ t12_18 < ((a0_l).length : Int)) (bif (!decide ((a0_l.getD t12_18.toNat dSProfile).Conn = 0)) then (bif (!decide ((a0_l.getD t12_18.toNat dSProfile).Conn = a1_conn)) then (compose_candidates_p38 t12_18 kl_n_35 o0_19) else (compose_candidates_p48 a0_l a2_txn t12_18 o0_19 kl_n_35)) else (compose_candidates_p48 a0_l a2_txn t12_18 o0_19 kl_n_35))) else (compose_candidates_p2 o0_19)
def compose_candidates_l35 (a0_l : List SProfile) (a1_conn : Int) (a2_txn : ByteArray) : Nat → Int → (List SProfile) → Option (List SProfile)
  | 0, _, _ => none
  | n + 1, t12_18, o0_19 => compose_candidates_b35 a0_l a1_conn a2_txn (fun t12_18 o0_19 => compose_candidates_l35 a0_l a1_conn a2_txn n t12_18 o0_19) t12_18 o0_19
def compose_candidates (F : Nat) (a0_l : List SProfile) (a1_conn : Int) (a2_txn : ByteArray) : Option (List SProfile) :=
  compose_candidates_l35 a0_l a1_conn a2_txn F 0 (([] : List SProfile))
def profile_first (F : Nat) (a0_p : SProfile) (a1_start : Int) : Option Int :=
  bif decide (a0_p.Kind = 4) then (some a1_start) else (some a0_p.Start)
def profile_cycle_p2 (days_1 : Int) : Option Int :=
  some (IntKind.wrap .i64 (days_1 * 1440))
def profile_cycle_p4 (days_3 : Int) : Option Int :=
  profile_cycle_p2 (IntKind.wrap .i64 (days_3 + 1))
def profile_cycle_p5  : Option Int :=
  profile_cycle_p4 (IntKind.wrap .i64 (0 + 6))
def profile_cycle (F : Nat) (a0_kind : Int) : Option Int :=
  bif decide (a0_kind = 3) then (profile_cycle_p5) else (bif decide (a0_kind = 2) then (profile_cycle_p4 0) else (profile_cycle_p2 0))
def profile_gap (F : Nat) (a0_from : Int) (a1_to : Int) : Option Int :=
  some (IntKind.wrap .u64 (IntKind.wrap .u64 a1_to - IntKind.wrap .u64 a0_from))
def profile_origin_p5 (o_4 : Int) : Option (Int × Bool) :=
  some ((o_4, true))
def profile_origin (F : Nat) (a0_p : SProfile) (a1_start : Int) (a2_t : Int) : Option (Int × Bool) :=
  (profile_first F a0_p a1_start).bind fun c_1 => bif decide (a2_t < c_1) then (some ((0, false))) else ((profile_cycle F a0_p.Kind).bind fun c_6 => bif decide (0 < c_6) then ((profile_gap F c_1 a2_t).bind fun c_9 => guard (IntKind.wrap .u64 c_6 ≠ 0) (profile_origin_p5 (IntKind.wrap .i64 (a2_t - IntKind.wrap .i64 (Int.tmod c_9 (IntKind.wrap .u64 c_6)))))) else (profile_origin_p5 c_1))
def profile_Limit_p8 (limit_6 : Int) (found_7 : Bool) : Option (Int × Bool) :=
  some ((limit_6, found_7))
def profile_Limit_p30 (t58_18 : Int) (kl_n_26 : Int → Bool → Int → Option (Int × Bool)) (limit_28 : Int) (found_29 : Bool) : Option (Int × Bool) :=
  kl_n_26 limit_28 found_29 (IntKind.wrap .i64 (t58_18 + 1))
def profile_Limit_b26 (a0_p : SProfile) (c_4 : Int) (kl_n_26 : Int → Bool → Int → Option (Int × Bool)) (limit_16 : Int) (found_17 : Bool) (t58_18 : Int) : Option (Int × Bool) :=
  bif decide (t58_18 < ((a0_p.Periods).length : Int)) then (guard ((0 : Int) ≤ t58_18 ∧ t58_18 < ((a0_p.Periods).length : Int)) (bif decide (0 ≤ (a0_p.Periods.getD t58_18.toNat dSPeriod).At) then (bif decide (IntKind.wrap .u64 ((a0_p.Periods.getD t58_18.toNat dSPeriod).At) ≤ c_4) then (profile_Limit_p30 t58_18 kl_n_26 ((a0_p.Periods.getD t58_18.toNat dSPeriod).Limit) true) else (profile_Limit_p30 t58_18 kl_n_26 limit_16 found_17)) else (profile_Limit_p30 t58_18 kl_n_26 limit_16 found_17))) else (profile_Limit_p8 limit_16 found_17)
def profile_Limit_l26 (a0_p : SProfile) (c_4 : Int) : Nat → Int → Bool → Int → Option (Int × Bool)
  | 0, _, _, _ => none
  | n + 1, limit_16, found_17, t58_18 => profile_Limit_b26 a0_p c_4 (fun limit_16 found_17 t58_18 => profile_Limit_l26 a0_p c_4 n limit_16 found_17 t58_18) limit_16 found_17 t58_18
def profile_Limit_p34 (F : Nat) (a0_p : SProfile) (c_4 : Int) : Option (Int × Bool) :=
  profile_Limit_l26 a0_p c_4 F 0 false 0
def profile_Limit_p37 (F : Nat) (a0_p : SProfile) (a1_start : Int) (a2_t : Int) : Option (Int × Bool) :=
  (profile_origin F a0_p a1_start a2_t).bind fun c_1 => bif (!c_1.2) then (some ((0, false))) else ((profile_gap F c_1.1 a2_t).bind fun c_4 => bif (!decide (a0_p.Duration = (-1))) then (bif decide (IntKind.wrap .u64 a0_p.Duration ≤ c_4) then (some ((0, false))) else (profile_Limit_p34 F a0_p c_4)) else (profile_Limit_p34 F a0_p c_4))
def profile_Limit (F : Nat) (a0_p : SProfile) (a1_start : Int) (a2_t : Int) : Option (Int × Bool) :=
  bif decide (a2_t < a0_p.Span_From) then (some ((0, false))) else (bif (!decide (a0_p.Span_To = (-1))) then (bif decide (a0_p.Span_To ≤ a2_t) then (some ((0, false))) else (profile_Limit_p37 F a0_p a1_start a2_t)) else (profile_Limit_p37 F a0_p a1_start a2_t))
def compose_determining_1_1 (F : Nat) (a0_p : SProfile) (a1f0 : Int) (a2f0 : Int) (a3f0 : Int) : Option (Int × Bool) :=
  bif (!decide (a0_p.Purpose = a1f0)) then (some ((0, false))) else ((profile_Limit F a0_p a2f0 a3f0).bind fun c_2 => some ((c_2.1, c_2.2)))
def compose_leading_f1_34_p5 (found_1 : Bool) (b1_2 : Int) (b1_3 : Int) (b1_4 : Int) : Option (SLead × Bool) :=
  some ((SLead.mk b1_2 b1_3 b1_4, found_1))
def compose_leading_f1_34_p41 (t14_17 : Int) (kl_n_35 : Bool → Int → Int → Int → Int → Option (SLead × Bool)) (found_37 : Bool) (b1_38 : Int) (b1_39 : Int) (b1_40 : Int) : Option (SLead × Bool) :=
  kl_n_35 found_37 (IntKind.wrap .i64 (t14_17 + 1)) b1_38 b1_39 b1_40
def compose_leading_f1_34_b35 (F : Nat) (a0_l : List SProfile) (a1f0 : Int) (a1f1 : Int) (a1f2 : Int) (kl_n_35 : Bool → Int → Int → Int → Int → Option (SLead × Bool)) (found_16 : Bool) (t14_17 : Int) (b1_18 : Int) (b1_19 : Int) (b1_20 : Int) : Option (SLead × Bool) :=
  bif decide (t14_17 < ((a0_l).length : Int)) then (guard ((0 : Int) ≤ t14_17 ∧ t14_17 < ((a0_l).length : Int)) ((compose_determining_1_1 F (a0_l.getD t14_17.toNat dSProfile) a1f0 a1f1 a1f2).bind fun c_43 => bif (!c_43.2) then (compose_leading_f1_34_p41 t14_17 kl_n_35 found_16 b1_18 b1_19 b1_20) else (bif (!found_16) then (compose_leading_f1_34_p41 t14_17 kl_n_35 true ((a0_l.getD t14_17.toNat dSProfile).ID) ((a0_l.getD t14_17.toNat dSProfile).Level) c_43.1) else (bif decide (b1_19 < (a0_l.getD t14_17.toNat dSProfile).Level) then (compose_leading_f1_34_p41 t14_17 kl_n_35 true ((a0_l.getD t14_17.toNat dSProfile).ID) ((a0_l.getD t14_17.toNat dSProfile).Level) c_43.1) else (bif decide ((a0_l.getD t14_17.toNat dSProfile).Level = b1_19) then (bif decide (b1_18 < (a0_l.getD t14_17.toNat dSProfile).ID) then (compose_leading_f1_34_p41 t14_17 kl_n_35 true ((a0_l.getD t14_17.toNat dSProfile).ID) ((a0_l.getD t14_17.toNat dSProfile).Level) c_43.1) else (compose_leading_f1_34_p41 t14_17 kl_n_35 found_16 b1_18 b1_19 b1_20)) else (compose_leading_f1_34_p41 t14_17 kl_n_35 found_16 b1_18 b1_19 b1_20)))))) else (compose_leading_f1_34_p5 found_16 b1_18 b1_19 b1_20)
def compose_leading_f1_34_l35 (F : Nat) (a0_l : List SProfile) (a1f0 : Int) (a1f1 : Int) (a1f2 : Int) : Nat → Bool → Int → Int → Int → Int → Option (SLead × Bool)
  | 0, _, _, _, _, _ => none
  | n + 1, found_16, t14_17, b1_18, b1_19, b1_20 => compose_leading_f1_34_b35 F a0_l a1f0 a1f1 a1f2 (fun found_16 t14_17 b1_18 b1_19 b1_20 => compose_leading_f1_34_l35 F a0_l a1f0 a1f1 a1f2 n found_16 t14_17 b1_18 b1_19 b1_20) found_16 t14_17 b1_18 b1_19 b1_20
def compose_leading_f1_34 (F : Nat) (a0_l : List SProfile) (a1f0 : Int) (a1f1 : Int) (a1f2 : Int) : Option (SLead × Bool) :=
  compose_leading_f1_34_l35 F a0_l a1f0 a1f1 a1f2 F false 0 0 0 0
def compose_determining_1 (F : Nat) (a0_purpose : Int) (a1f0 : List SProfile) (a2f0 : Int) (a3f0 : Int) : Option (SLead × Bool) :=
  (compose_leading_f1_34 F a1f0 a0_purpose a2f0 a3f0).bind fun c_1 => some ((SLead.mk c_1.1.id c_1.1.level c_1.1.limit, c_1.2))
def compose_determining_p9 (held_3 : Bool) (b1_4 : Int) (b1_5 : Int) (b1_6 : Int) : Option (SLead × Bool) :=
  some ((SLead.mk b1_4 b1_5 b1_6, held_3))
def compose_determining_p13 (F : Nat) (a0_l : List SProfile) (a1_start : Int) (a2_t : Int) (held_3 : Bool) (b1_4 : Int) (b1_5 : Int) (b1_6 : Int) : Option (SLead × Bool) :=
  (compose_determining_1 F 1 a0_l a1_start a2_t).bind fun c_7 => bif c_7.2 then (bif (!held_3) then (some ((SLead.mk c_7.1.id c_7.1.level c_7.1.limit, true))) else (bif decide (c_7.1.limit ≤ b1_6) then (some ((SLead.mk c_7.1.id c_7.1.level c_7.1.limit, true))) else (compose_determining_p9 held_3 b1_4 b1_5 b1_6))) else (compose_determining_p9 held_3 b1_4 b1_5 b1_6)
def compose_determining (F : Nat) (a0_l : List SProfile) (a1_start : Int) (a2_t : Int) : Option (SLead × Bool) :=
  (compose_determining_1 F 3 a0_l a1_start a2_t).bind fun c_1 => bif (!c_1.2) then ((compose_determining_1 F 2 a0_l a1_start a2_t).bind fun c_15 => compose_determining_p13 F a0_l a1_start a2_t c_15.2 c_15.1.id c_15.1.level c_15.1.limit) else (compose_determining_p13 F a0_l a1_start a2_t c_1.2 c_1.1.id c_1.1.level c_1.1.limit)
def compose_limit (F : Nat) (a0_l : List SProfile) (a1_start : Int) (a2_t : Int) : Option Int :=
  (compose_determining F a0_l a1_start a2_t).bind fun c_1 => bif c_1.2 then (some c_1.1.limit) else (some 1073741824)
def compose_At (F : Nat) (a0_l : List SProfile) (a1_conn : Int) (a2_txn : ByteArray) (a3_start : Int) (a4_t : Int) : Option Int :=
  (compose_candidates F a0_l a1_conn a2_txn).bind fun c_1 => (compose_limit F c_1 a3_start a4_t).bind fun c_3 => some c_3
def slices_Sort_int_int (F : Nat) (a0_x : List Int) : Option (List Int) :=
  guard (a0_x.length < 4611686018427387904) (some (sortI a0_x))
def profile_changes_p7 (F : Nat) (o0_3 : List Int) : Option (List Int) :=
  (slices_Sort_int_int F o0_3).bind fun c_4 => guard (c_4.length = o0_3.length) (some c_4)
def profile_changes_p68 (t37_37 : Int) (kl_n_64 : Int → Int → (List Int) → Option (List Int)) (o_66 : Int) (o1_67 : List Int) : Option (List Int) :=
  kl_n_64 o_66 (IntKind.wrap .i64 (t37_37 + 1)) o1_67
def profile_changes_p74 (F : Nat) (a0_p : SProfile) (o_36 : Int) (t37_37 : Int) (kl_n_64 : Int → Int → (List Int) → Option (List Int)) (o1_71 : List Int) : Option (List Int) :=
  (profile_cycle F a0_p.Kind).bind fun c_72 => profile_changes_p68 t37_37 kl_n_64 (IntKind.wrap .i64 (o_36 + c_72)) o1_71
def profile_changes_b83 (F : Nat) (a0_p : SProfile) (o_36 : Int) (t37_37 : Int) (kl_n_64 : Int → Int → (List Int) → Option (List Int)) (kl_n_83 : Int → (List Int) → Option (List Int)) (t56_78 : Int) (o1_79 : List Int) : Option (List Int) :=
  bif decide (t56_78 < ((a0_p.Periods).length : Int)) then (guard ((0 : Int) ≤ t56_78 ∧ t56_78 < ((a0_p.Periods).length : Int)) (guard (((o1_79).length + ([IntKind.wrap .i64 (o_36 + (a0_p.Periods.getD t56_78.toNat dSPeriod).At)]).length) * 8 ≤ 140737488355328 ∧ (o1_79).length + ([IntKind.wrap .i64 (o_36 + (a0_p.Periods.getD t56_78.toNat dSPeriod).At)]).length ≤ 140737488355328) (kl_n_83 (IntKind.wrap .i64 (t56_78 + 1)) (o1_79 ++ ([IntKind.wrap .i64 (o_36 + (a0_p.Periods.getD t56_78.toNat dSPeriod).At)]))))) else (profile_changes_p74 F a0_p o_36 t37_37 kl_n_64 o1_79)
def profile_changes_l83 (F : Nat) (a0_p : SProfile) (o_36 : Int) (t37_37 : Int) (kl_n_64 : Int → Int → (List Int) → Option (List Int)) : Nat → Int → (List Int) → Option (List Int)
  | 0, _, _ => none
  | n + 1, t56_78, o1_79 => profile_changes_b83 F a0_p o_36 t37_37 kl_n_64 (fun t56_78 o1_79 => profile_changes_l83 F a0_p o_36 t37_37 kl_n_64 n t56_78 o1_79) t56_78 o1_79
def profile_changes_p87 (F : Nat) (a0_p : SProfile) (o_36 : Int) (t37_37 : Int) (kl_n_64 : Int → Int → (List Int) → Option (List Int)) (o1_70 : List Int) : Option (List Int) :=
  profile_changes_l83 F a0_p o_36 t37_37 kl_n_64 F 0 o1_70
def profile_changes_b64 (F : Nat) (a0_p : SProfile) (kl_n_64 : Int → Int → (List Int) → Option (List Int)) (o_36 : Int) (t37_37 : Int) (o1_38 : List Int) : Option (List Int) :=
  bif decide (t37_37 < 2) then (guard (((o1_38).length + ([o_36]).length) * 8 ≤ 140737488355328 ∧ (o1_38).length + ([o_36]).length ≤ 140737488355328) (bif decide (0 < a0_p.Duration) then (guard (((o1_38 ++ ([o_36])).length + ([IntKind.wrap .i64 (o_36 + a0_p.Duration)]).length) * 8 ≤ 140737488355328 ∧ (o1_38 ++ ([o_36])).length + ([IntKind.wrap .i64 (o_36 + a0_p.Duration)]).length ≤ 140737488355328) (profile_changes_p87 F a0_p o_36 t37_37 kl_n_64 ((o1_38 ++ ([o_36])) ++ ([IntKind.wrap .i64 (o_36 + a0_p.Duration)])))) else (profile_changes_p87 F a0_p o_36 t37_37 kl_n_64 (o1_38 ++ ([o_36]))))) else (profile_changes_p7 F o1_38)
def profile_changes_l64 (F : Nat) (a0_p : SProfile) : Nat → Int → Int → (List Int) → Option (List Int)
  | 0, _, _, _ => none
  | n + 1, o_36, t37_37, o1_38 => profile_changes_b64 F a0_p (fun o_36 t37_37 o1_38 => profile_changes_l64 F a0_p n o_36 t37_37 o1_38) o_36 t37_37 o1_38
def profile_changes (F : Nat) (a0_p : SProfile) (a1_start : Int) (a2_t : Int) : Option (List Int) :=
  (profile_first F a0_p a1_start).bind fun c_1 => bif decide (c_1 ≤ 268435456) then ((profile_origin F a0_p a1_start ((if (if a2_t < a0_p.Span_From then a0_p.Span_From else a2_t) < c_1 then c_1 else (if a2_t < a0_p.Span_From then a0_p.Span_From else a2_t)))).bind fun c_9 => profile_changes_l64 F a0_p F c_9.1 0 ([a0_p.Span_From, a0_p.Span_To])) else (profile_changes_p7 F ([a0_p.Span_From, a0_p.Span_To]))
def profile_Next_p4  : Option Int :=
  some ((-1))
def profile_Next_p32 (t30_18 : Int) (kl_n_30 : Int → Option Int) : Option Int :=
  kl_n_30 (IntKind.wrap .i64 (t30_18 + 1))
def profile_Next_b30 (F : Nat) (a0_p : SProfile) (a1_start : Int) (a2_t : Int) (c_5 : List Int) (kl_n_30 : Int → Option Int) (t30_18 : Int) : Option Int :=
  bif decide (t30_18 < ((c_5).length : Int)) then (guard ((0 : Int) ≤ t30_18 ∧ t30_18 < ((c_5).length : Int)) (bif decide (c_5.getD t30_18.toNat 0 ≤ a2_t) then (profile_Next_p32 t30_18 kl_n_30) else (bif decide (268435456 < c_5.getD t30_18.toNat 0) then (profile_Next_p32 t30_18 kl_n_30) else ((profile_Limit F a0_p a1_start (IntKind.wrap .i64 (c_5.getD t30_18.toNat 0 - 1))).bind fun c_36 => (profile_Limit F a0_p a1_start (c_5.getD t30_18.toNat 0)).bind fun c_38 => bif (!decide (c_36.1 = c_38.1)) then (some (c_5.getD t30_18.toNat 0)) else (bif (!(c_36.2 == c_38.2)) then (some (c_5.getD t30_18.toNat 0)) else (profile_Next_p32 t30_18 kl_n_30)))))) else (profile_Next_p4)
def profile_Next_l30 (F : Nat) (a0_p : SProfile) (a1_start : Int) (a2_t : Int) (c_5 : List Int) : Nat → Int → Option Int
  | 0, _ => none
  | n + 1, t30_18 => profile_Next_b30 F a0_p a1_start a2_t c_5 (fun t30_18 => profile_Next_l30 F a0_p a1_start a2_t c_5 n t30_18) t30_18
def profile_Next (F : Nat) (a0_p : SProfile) (a1_start : Int) (a2_t : Int) : Option Int :=
  bif decide (a2_t < 0) then (some ((-1))) else (bif decide (268435456 < a2_t) then (some ((-1))) else (bif decide (24 < ((a0_p.Periods).length : Int)) then (some ((-1))) else ((profile_changes F a0_p a1_start a2_t).bind fun c_5 => profile_Next_l30 F a0_p a1_start a2_t c_5 F 0)))
def compose_pause_p2 (best_1 : Int) : Option Int :=
  some best_1
def compose_pause_p70 (t15_35 : Int) (kl_n_67 : Int → Int → Option Int) (best_69 : Int) : Option Int :=
  kl_n_67 best_69 (IntKind.wrap .i64 (t15_35 + 1))
def compose_pause_p90 (t42_80 : Int) (kl_n_87 : Int → Int → Option Int) (best_89 : Int) : Option Int :=
  kl_n_87 best_89 (IntKind.wrap .i64 (t42_80 + 1))
def compose_pause_b87 (a0_l : List SProfile) (a2_t : Int) (t15_35 : Int) (kl_n_67 : Int → Int → Option Int) (b0_72 : Int) (kl_n_87 : Int → Int → Option Int) (best_79 : Int) (t42_80 : Int) : Option Int :=
  bif decide (t42_80 < 3) then (guard ((0 : Int) ≤ t42_80 ∧ t42_80 < 3) (bif decide (a2_t < ([b0_72, (a0_l.getD t15_35.toNat dSProfile).Span_To, (a0_l.getD t15_35.toNat dSProfile).Start] : List Int).getD t42_80.toNat 0) then (bif decide (([b0_72, (a0_l.getD t15_35.toNat dSProfile).Span_To, (a0_l.getD t15_35.toNat dSProfile).Start] : List Int).getD t42_80.toNat 0 < best_79) then (compose_pause_p90 t42_80 kl_n_87 (([b0_72, (a0_l.getD t15_35.toNat dSProfile).Span_To, (a0_l.getD t15_35.toNat dSProfile).Start] : List Int).getD t42_80.toNat 0)) else (compose_pause_p90 t42_80 kl_n_87 best_79)) else (compose_pause_p90 t42_80 kl_n_87 best_79))) else (compose_pause_p70 t15_35 kl_n_67 best_79)
def compose_pause_l87 (a0_l : List SProfile) (a2_t : Int) (t15_35 : Int) (kl_n_67 : Int → Int → Option Int) (b0_72 : Int) : Nat → Int → Int → Option Int
  | 0, _, _ => none
  | n + 1, best_79, t42_80 => compose_pause_b87 a0_l a2_t t15_35 kl_n_67 b0_72 (fun best_79 t42_80 => compose_pause_l87 a0_l a2_t t15_35 kl_n_67 b0_72 n best_79 t42_80) best_79 t42_80
def compose_pause_p94 (F : Nat) (a0_l : List SProfile) (a2_t : Int) (best_34 : Int) (t15_35 : Int) (kl_n_67 : Int → Int → Option Int) (b0_72 : Int) : Option Int :=
  compose_pause_l87 a0_l a2_t t15_35 kl_n_67 b0_72 F best_34 0
def compose_pause_b67 (F : Nat) (a0_l : List SProfile) (a1_start : Int) (a2_t : Int) (kl_n_67 : Int → Int → Option Int) (best_34 : Int) (t15_35 : Int) : Option Int :=
  bif decide (t15_35 < ((a0_l).length : Int)) then (guard ((0 : Int) ≤ t15_35 ∧ t15_35 < ((a0_l).length : Int)) (bif (!decide ((a0_l.getD t15_35.toNat dSProfile).Kind = 2)) then (bif (!decide ((a0_l.getD t15_35.toNat dSProfile).Kind = 3)) then ((profile_Next F (a0_l.getD t15_35.toNat dSProfile) a1_start a2_t).bind fun c_97 => compose_pause_p94 F a0_l a2_t best_34 t15_35 kl_n_67 c_97) else (compose_pause_p94 F a0_l a2_t best_34 t15_35 kl_n_67 ((a0_l.getD t15_35.toNat dSProfile).Span_From))) else (compose_pause_p94 F a0_l a2_t best_34 t15_35 kl_n_67 ((a0_l.getD t15_35.toNat dSProfile).Span_From)))) else (compose_pause_p2 best_34)
def compose_pause_l67 (F : Nat) (a0_l : List SProfile) (a1_start : Int) (a2_t : Int) : Nat → Int → Int → Option Int
  | 0, _, _ => none
  | n + 1, best_34, t15_35 => compose_pause_b67 F a0_l a1_start a2_t (fun best_34 t15_35 => compose_pause_l67 F a0_l a1_start a2_t n best_34 t15_35) best_34 t15_35
def compose_pause (F : Nat) (a0_l : List SProfile) (a1_start : Int) (a2_t : Int) : Option Int :=
  compose_pause_l67 F a0_l a1_start a2_t F 268435457 0
def compose_earliest_p3 (best_1 : Int) (o0_2 : List Int) : Option (Int × (List Int)) :=
  some ((best_1, o0_2))
def compose_earliest_p38 (best_17 : Int) (t14_18 : Int) (kl_n_33 : Int → Int → (List Int) → Option (Int × (List Int))) (o0_36 : List Int) : Option (Int × (List Int)) :=
  guard ((0 : Int) ≤ t14_18 ∧ t14_18 < ((o0_36).length : Int)) (kl_n_33 ((if o0_36.getD t14_18.toNat 0 < best_17 then o0_36.getD t14_18.toNat 0 else best_17)) (IntKind.wrap .i64 (t14_18 + 1)) o0_36)
def compose_earliest_b33 (F : Nat) (a0_l : List SProfile) (a1_start : Int) (a2_t : Int) (kl_n_33 : Int → Int → (List Int) → Option (Int × (List Int))) (best_17 : Int) (t14_18 : Int) (o0_19 : List Int) : Option (Int × (List Int)) :=
  bif decide (t14_18 < ((a0_l).length : Int)) then (guard ((0 : Int) ≤ t14_18 ∧ t14_18 < ((a0_l).length : Int)) (guard ((0 : Int) ≤ t14_18 ∧ t14_18 < ((o0_19).length : Int)) (bif decide (o0_19.getD t14_18.toNat 0 ≤ a2_t) then ((profile_Next F (a0_l.getD t14_18.toNat dSProfile) a1_start a2_t).bind fun c_41 => guard ((0 : Int) ≤ t14_18 ∧ t14_18 < ((o0_19).length : Int)) (guard ((0 : Int) ≤ t14_18 ∧ t14_18 < ((o0_19.set t14_18.toNat c_41).length : Int)) (bif decide ((o0_19.set t14_18.toNat c_41).getD t14_18.toNat 0 < 0) then (guard ((0 : Int) ≤ t14_18 ∧ t14_18 < ((o0_19.set t14_18.toNat c_41).length : Int)) (compose_earliest_p38 best_17 t14_18 kl_n_33 ((o0_19.set t14_18.toNat c_41).set t14_18.toNat 268435457))) else (compose_earliest_p38 best_17 t14_18 kl_n_33 (o0_19.set t14_18.toNat c_41))))) else (compose_earliest_p38 best_17 t14_18 kl_n_33 o0_19)))) else (compose_earliest_p3 best_17 o0_19)
def compose_earliest_l33 (F : Nat) (a0_l : List SProfile) (a1_start : Int) (a2_t : Int) : Nat → Int → Int → (List Int) → Option (Int × (List Int))
  | 0, _, _, _ => none
  | n + 1, best_17, t14_18, o0_19 => compose_earliest_b33 F a0_l a1_start a2_t (fun best_17 t14_18 o0_19 => compose_earliest_l33 F a0_l a1_start a2_t n best_17 t14_18 o0_19) best_17 t14_18 o0_19
def compose_earliest (F : Nat) (a0_l : List SProfile) (a1_start : Int) (a2_t : Int) (a3_ahead : List Int) : Option (Int × (List Int)) :=
  compose_earliest_l33 F a0_l a1_start a2_t F 268435457 0 a3_ahead
def compose_next_p5  : Option Int :=
  some ((-1))
def compose_next_p63 (F : Nat) (a0_l : List SProfile) (a1_start : Int) (a3_last : Int) (begin_28 : Int) (end_29 : Int) (kl_n_48 : Int → Int → Int → (List Int) → Option Int) (c_50 : Int × (List Int)) (c_53 : Int) : Option Int :=
  bif decide (a3_last < c_53) then (some ((-1))) else ((compose_limit F a0_l a1_start c_53).bind fun c_55 => (compose_limit F a0_l a1_start (IntKind.wrap .i64 (c_53 - 1))).bind fun c_57 => bif (!decide (c_55 = c_57)) then (some c_53) else (bif decide (c_53 = end_29) then ((compose_pause F a0_l a1_start c_53).bind fun c_61 => kl_n_48 c_53 c_53 c_61 c_50.2) else (kl_n_48 c_53 begin_28 end_29 c_50.2)))
def compose_next_b48 (F : Nat) (a0_l : List SProfile) (a1_start : Int) (a3_last : Int) (kl_n_48 : Int → Int → Int → (List Int) → Option Int) (t_27 : Int) (begin_28 : Int) (end_29 : Int) (o0_30 : List Int) : Option Int :=
  bif decide (t_27 < a3_last) then ((compose_earliest F a0_l a1_start t_27 o0_30).bind fun c_50 => guard (c_50.2.length = o0_30.length) (bif decide (end_29 < c_50.1) then (compose_next_p63 F a0_l a1_start a3_last begin_28 end_29 kl_n_48 c_50 end_29) else (bif decide (10080 < IntKind.wrap .i64 (c_50.1 - begin_28)) then (compose_next_p63 F a0_l a1_start a3_last begin_28 end_29 kl_n_48 c_50 end_29) else (compose_next_p63 F a0_l a1_start a3_last begin_28 end_29 kl_n_48 c_50 c_50.1)))) else (compose_next_p5)
def compose_next_l48 (F : Nat) (a0_l : List SProfile) (a1_start : Int) (a3_last : Int) : Nat → Int → Int → Int → (List Int) → Option Int
  | 0, _, _, _, _ => none
  | n + 1, t_27, begin_28, end_29, o0_30 => compose_next_b48 F a0_l a1_start a3_last (fun t_27 begin_28 end_29 o0_30 => compose_next_l48 F a0_l a1_start a3_last n t_27 begin_28 end_29 o0_30) t_27 begin_28 end_29 o0_30
def compose_next_p66 (F : Nat) (a0_l : List SProfile) (a1_start : Int) (a3_last : Int) (t_1 : Int) : Option Int :=
  (compose_pause F a0_l a1_start t_1).bind fun c_2 => guard ((0 : Int) ≤ ((a0_l).length : Int) ∧ ((8 : Nat) : Int) * (((a0_l).length : Int)) ≤ 281474976710656 ∧ (((a0_l).length : Int) : Int) ≤ 281474976710656) (compose_next_l48 F a0_l a1_start a3_last F t_1 t_1 c_2 (List.replicate (((a0_l).length : Int)).toNat 0))
def compose_next_p68 (F : Nat) (a0_l : List SProfile) (a1_start : Int) (a3_last : Int) : Option Int :=
  compose_next_p66 F a0_l a1_start a3_last 0
def compose_next (F : Nat) (a0_l : List SProfile) (a1_start : Int) (a2_t : Int) (a3_last : Int) : Option Int :=
  bif decide (a2_t < 0) then (bif decide (0 ≤ a3_last) then ((compose_limit F a0_l a1_start 0).bind fun c_70 => (compose_limit F a0_l a1_start ((-1))).bind fun c_72 => bif (!decide (c_70 = c_72)) then (some 0) else (compose_next_p68 F a0_l a1_start a3_last)) else (compose_next_p68 F a0_l a1_start a3_last)) else (compose_next_p66 F a0_l a1_start a3_last a2_t)
def compose_Next (F : Nat) (a0_l : List SProfile) (a1_conn : Int) (a2_txn : ByteArray) (a3_start : Int) (a4_t : Int) : Option Int :=
  (compose_candidates F a0_l a1_conn a2_txn).bind fun c_1 => (compose_next F c_1 a3_start a4_t 268435456).bind fun c_3 => some c_3
def chargenetlaw16_exampleHolds (F : Nat)  : Option Bool :=
  (chargenetlaw16_exampleHolds_1 F 1 2 4000 ByteArray.empty 0).bind fun c_1 => (chargenetlaw16_exampleHolds_1 F 2 3 6000 (ByteArray.mk #[83, 45, 49]) 1).bind fun c_3 => (compose_At F ([c_1, c_3]) 1 (ByteArray.mk #[83, 45, 49]) 5 9).bind fun c_5 => bif (!decide (c_5 = 6000)) then (some false) else ((compose_At F ([c_1, c_3]) 1 ByteArray.empty 5 9).bind fun c_8 => bif (!decide (c_8 = 4000)) then (some false) else ((chargenetlaw16_exampleHolds_1 F 3 1 5000 ByteArray.empty 0).bind fun c_11 => guard ((([c_1, c_3]).length + ([c_11]).length) * 112 ≤ 140737488355328 ∧ ([c_1, c_3]).length + ([c_11]).length ≤ 140737488355328) ((compose_At F (([c_1, c_3]) ++ ([c_11])) 1 (ByteArray.mk #[83, 45, 49]) 5 9).bind fun c_14 => bif decide (c_14 = 5000) then ((compose_At F (([c_1, c_3]) ++ ([c_11])) 1 ByteArray.empty 5 9).bind fun c_17 => bif decide (c_17 = 4000) then ((compose_At F (([] : List SProfile)) 1 ByteArray.empty 5 9).bind fun c_20 => bif decide (c_20 = 1073741824) then ((compose_Next F (([] : List SProfile)) 1 ByteArray.empty 5 9).bind fun c_23 => some (decide (c_23 = (-1)))) else (some false)) else (some false)) else (some false))))
def chargenetref15_cycle (F : Nat) (a0_kind : Int) : Option Int :=
  bif decide (a0_kind = 2) then (some 1440) else (bif decide (a0_kind = 3) then (some 10080) else (some 0))
def chargenetref15_origin_p4 (o_3 : Int) : Option (Int × Bool) :=
  some ((o_3, true))
def chargenetref15_origin_p9 (F : Nat) (a0_p : SProfile) (a2_t : Int) (o_1 : Int) : Option (Int × Bool) :=
  bif decide (a2_t < o_1) then (some ((0, false))) else ((chargenetref15_cycle F a0_p.Kind).bind fun c_5 => bif decide (0 < c_5) then (guard (c_5 ≠ 0) (chargenetref15_origin_p4 (IntKind.wrap .i64 (a2_t - Int.tmod (IntKind.wrap .i64 (a2_t - o_1)) c_5)))) else (chargenetref15_origin_p4 o_1))
def chargenetref15_origin (F : Nat) (a0_p : SProfile) (a1_start : Int) (a2_t : Int) : Option (Int × Bool) :=
  bif decide (a0_p.Kind = 4) then (chargenetref15_origin_p9 F a0_p a2_t a1_start) else (chargenetref15_origin_p9 F a0_p a2_t a0_p.Start)
def chargenetref15_Limit_p4 (n_3 : Int) : Option (Int × Bool) :=
  some ((n_3, true))
def chargenetref15_Limit_p22 (i_12 : Int) (kl_n_19 : Int → Int → Option (Int × Bool)) (n_21 : Int) : Option (Int × Bool) :=
  kl_n_19 n_21 (IntKind.wrap .i64 (i_12 + 1))
def chargenetref15_Limit_b19 (a0_p : SProfile) (a2_t : Int) (c_1 : Int × Bool) (kl_n_19 : Int → Int → Option (Int × Bool)) (n_11 : Int) (i_12 : Int) : Option (Int × Bool) :=
  bif decide (i_12 < ((a0_p.Periods).length : Int)) then (guard ((0 : Int) ≤ i_12 ∧ i_12 < ((a0_p.Periods).length : Int)) (bif decide (IntKind.wrap .u64 ((a0_p.Periods.getD i_12.toNat dSPeriod).At) ≤ IntKind.wrap .u64 (IntKind.wrap .u64 a2_t - IntKind.wrap .u64 c_1.1)) then (guard ((0 : Int) ≤ i_12 ∧ i_12 < ((a0_p.Periods).length : Int)) (chargenetref15_Limit_p22 i_12 kl_n_19 ((a0_p.Periods.getD i_12.toNat dSPeriod).Limit))) else (chargenetref15_Limit_p22 i_12 kl_n_19 n_11))) else (chargenetref15_Limit_p4 n_11)
def chargenetref15_Limit_l19 (a0_p : SProfile) (a2_t : Int) (c_1 : Int × Bool) : Nat → Int → Int → Option (Int × Bool)
  | 0, _, _ => none
  | n + 1, n_11, i_12 => chargenetref15_Limit_b19 a0_p a2_t c_1 (fun n_11 i_12 => chargenetref15_Limit_l19 a0_p a2_t c_1 n n_11 i_12) n_11 i_12
def chargenetref15_Limit_p26 (F : Nat) (a0_p : SProfile) (a2_t : Int) (c_1 : Int × Bool) : Option (Int × Bool) :=
  chargenetref15_Limit_l19 a0_p a2_t c_1 F 0 0
def chargenetref15_Limit_p30 (F : Nat) (a0_p : SProfile) (a1_start : Int) (a2_t : Int) : Option (Int × Bool) :=
  (chargenetref15_origin F a0_p a1_start a2_t).bind fun c_1 => bif (!c_1.2) then (some ((0, false))) else (bif (!decide (a0_p.Duration = (-1))) then (bif decide (IntKind.wrap .u64 a0_p.Duration ≤ IntKind.wrap .u64 (IntKind.wrap .u64 a2_t - IntKind.wrap .u64 c_1.1)) then (some ((0, false))) else (chargenetref15_Limit_p26 F a0_p a2_t c_1)) else (chargenetref15_Limit_p26 F a0_p a2_t c_1))
def chargenetref15_Limit (F : Nat) (a0_p : SProfile) (a1_start : Int) (a2_t : Int) : Option (Int × Bool) :=
  bif decide (a2_t < a0_p.Span_From) then (some ((0, false))) else (bif (!decide (a0_p.Span_To = (-1))) then (bif decide (a0_p.Span_To ≤ a2_t) then (some ((0, false))) else (chargenetref15_Limit_p30 F a0_p a1_start a2_t)) else (chargenetref15_Limit_p30 F a0_p a1_start a2_t))
def chargenetlaw16_ComposeIgnores_p24 (F : Nat) (a0_q : SQuery) (a1_i : Int) : Option Bool :=
  guard ((0 : Int) ≤ Int.tmod (IntKind.wrap .i64 a1_i) (((a0_q.L).length : Int)) ∧ Int.tmod (IntKind.wrap .i64 a1_i) (((a0_q.L).length : Int)) ≤ ((a0_q.L).length : Int)) (guard (((([] : List SProfile)).length + (subL a0_q.L 0 (Int.tmod (IntKind.wrap .i64 a1_i) (((a0_q.L).length : Int)) : Int).toNat).length) * 112 ≤ 140737488355328 ∧ (([] : List SProfile)).length + (subL a0_q.L 0 (Int.tmod (IntKind.wrap .i64 a1_i) (((a0_q.L).length : Int)) : Int).toNat).length ≤ 140737488355328) (guard ((0 : Int) ≤ IntKind.wrap .i64 (Int.tmod (IntKind.wrap .i64 a1_i) (((a0_q.L).length : Int)) + 1) ∧ IntKind.wrap .i64 (Int.tmod (IntKind.wrap .i64 a1_i) (((a0_q.L).length : Int)) + 1) ≤ ((a0_q.L).length : Int)) (guard ((((([] : List SProfile)) ++ (subL a0_q.L 0 (Int.tmod (IntKind.wrap .i64 a1_i) (((a0_q.L).length : Int)) : Int).toNat)).length + (subL a0_q.L (IntKind.wrap .i64 (Int.tmod (IntKind.wrap .i64 a1_i) (((a0_q.L).length : Int)) + 1) : Int).toNat (a0_q.L).length).length) * 112 ≤ 140737488355328 ∧ ((([] : List SProfile)) ++ (subL a0_q.L 0 (Int.tmod (IntKind.wrap .i64 a1_i) (((a0_q.L).length : Int)) : Int).toNat)).length + (subL a0_q.L (IntKind.wrap .i64 (Int.tmod (IntKind.wrap .i64 a1_i) (((a0_q.L).length : Int)) + 1) : Int).toNat (a0_q.L).length).length ≤ 140737488355328) ((compose_At F (((([] : List SProfile)) ++ (subL a0_q.L 0 (Int.tmod (IntKind.wrap .i64 a1_i) (((a0_q.L).length : Int)) : Int).toNat)) ++ (subL a0_q.L (IntKind.wrap .i64 (Int.tmod (IntKind.wrap .i64 a1_i) (((a0_q.L).length : Int)) + 1) : Int).toNat (a0_q.L).length)) a0_q.Conn a0_q.Txn a0_q.Start a0_q.T).bind fun c_17 => (compose_At F a0_q.L a0_q.Conn a0_q.Txn a0_q.Start a0_q.T).bind fun c_19 => bif decide (c_17 = c_19) then ((chargenetlaw16_exampleHolds F).bind fun c_22 => some c_22) else (some false)))))
def chargenetlaw16_ComposeIgnores (F : Nat) (a0_q : SQuery) (a1_i : Int) : Option Bool :=
  (chargenetlaw16_Good F a0_q).bind fun c_1 => bif (!c_1) then ((chargenetlaw16_exampleHolds F).bind fun c_4 => some c_4) else (bif decide (((a0_q.L).length : Int) = 0) then ((chargenetlaw16_exampleHolds F).bind fun c_7 => some c_7) else (guard (((a0_q.L).length : Int) ≠ 0) (guard ((0 : Int) ≤ Int.tmod (IntKind.wrap .i64 a1_i) (((a0_q.L).length : Int)) ∧ Int.tmod (IntKind.wrap .i64 a1_i) (((a0_q.L).length : Int)) < ((a0_q.L).length : Int)) ((chargenetref15_Limit F (a0_q.L.getD (Int.tmod (IntKind.wrap .i64 a1_i) (((a0_q.L).length : Int))).toNat dSProfile) a0_q.Start a0_q.T).bind fun c_11 => bif c_11.2 then (bif decide ((a0_q.L.getD (Int.tmod (IntKind.wrap .i64 a1_i) (((a0_q.L).length : Int))).toNat dSProfile).Conn = 0) then (bif (!decide ((a0_q.L.getD (Int.tmod (IntKind.wrap .i64 a1_i) (((a0_q.L).length : Int))).toNat dSProfile).Purpose = 3)) then (some true) else (bif sEq ((a0_q.L.getD (Int.tmod (IntKind.wrap .i64 a1_i) (((a0_q.L).length : Int))).toNat dSProfile).Txn) a0_q.Txn then (some true) else (chargenetlaw16_ComposeIgnores_p24 F a0_q a1_i))) else (bif decide ((a0_q.L.getD (Int.tmod (IntKind.wrap .i64 a1_i) (((a0_q.L).length : Int))).toNat dSProfile).Conn = a0_q.Conn) then (bif (!decide ((a0_q.L.getD (Int.tmod (IntKind.wrap .i64 a1_i) (((a0_q.L).length : Int))).toNat dSProfile).Purpose = 3)) then (some true) else (bif sEq ((a0_q.L.getD (Int.tmod (IntKind.wrap .i64 a1_i) (((a0_q.L).length : Int))).toNat dSProfile).Txn) a0_q.Txn then (some true) else (chargenetlaw16_ComposeIgnores_p24 F a0_q a1_i))) else (chargenetlaw16_ComposeIgnores_p24 F a0_q a1_i))) else (chargenetlaw16_ComposeIgnores_p24 F a0_q a1_i)))))
def chargenetlaw16_ComposeBounds_p13 (F : Nat) (a0_q : SQuery) (a1_limit : Int) : Option Bool :=
  guard (((([] : List SProfile)).length + (a0_q.L).length) * 112 ≤ 140737488355328 ∧ (([] : List SProfile)).length + (a0_q.L).length ≤ 140737488355328) (guard ((((([] : List SProfile)) ++ a0_q.L).length + ([SProfile.mk 2147483647 8 1 1 0 ByteArray.empty 0 ((-1)) 0 ((-1)) ([SPeriod.mk 0 (IntKind.wrap .i64 a1_limit)])]).length) * 112 ≤ 140737488355328 ∧ ((([] : List SProfile)) ++ a0_q.L).length + ([SProfile.mk 2147483647 8 1 1 0 ByteArray.empty 0 ((-1)) 0 ((-1)) ([SPeriod.mk 0 (IntKind.wrap .i64 a1_limit)])]).length ≤ 140737488355328) ((compose_At F (((([] : List SProfile)) ++ a0_q.L) ++ ([SProfile.mk 2147483647 8 1 1 0 ByteArray.empty 0 ((-1)) 0 ((-1)) ([SPeriod.mk 0 (IntKind.wrap .i64 a1_limit)])])) a0_q.Conn a0_q.Txn a0_q.Start a0_q.T).bind fun c_8 => bif decide (c_8 ≤ IntKind.wrap .i64 a1_limit) then ((chargenetlaw16_exampleHolds F).bind fun c_11 => some c_11) else (some false)))
def chargenetlaw16_ComposeBounds_b23 (F : Nat) (a0_q : SQuery) (a1_limit : Int) (kl_n_23 : Int → Option Bool) (t17_18 : Int) : Option Bool :=
  bif decide (t17_18 < ((a0_q.L).length : Int)) then (guard ((0 : Int) ≤ t17_18 ∧ t17_18 < ((a0_q.L).length : Int)) (bif decide (8 ≤ (a0_q.L.getD t17_18.toNat dSProfile).Level) then (some true) else (bif decide ((a0_q.L.getD t17_18.toNat dSProfile).ID = 2147483647) then (some true) else (kl_n_23 (IntKind.wrap .i64 (t17_18 + 1)))))) else (chargenetlaw16_ComposeBounds_p13 F a0_q a1_limit)
def chargenetlaw16_ComposeBounds_l23 (F : Nat) (a0_q : SQuery) (a1_limit : Int) : Nat → Int → Option Bool
  | 0, _ => none
  | n + 1, t17_18 => chargenetlaw16_ComposeBounds_b23 F a0_q a1_limit (fun t17_18 => chargenetlaw16_ComposeBounds_l23 F a0_q a1_limit n t17_18) t17_18
def chargenetlaw16_ComposeBounds (F : Nat) (a0_q : SQuery) (a1_limit : Int) : Option Bool :=
  (chargenetlaw16_Good F a0_q).bind fun c_1 => bif (!c_1) then ((chargenetlaw16_exampleHolds F).bind fun c_4 => some c_4) else (chargenetlaw16_ComposeBounds_l23 F a0_q a1_limit F 0)
def compose_Why (F : Nat) (a0_l : List SProfile) (a1_conn : Int) (a2_txn : ByteArray) (a3_start : Int) (a4_t : Int) : Option (Int × Bool) :=
  (compose_candidates F a0_l a1_conn a2_txn).bind fun c_1 => (compose_determining F c_1 a3_start a4_t).bind fun c_3 => some ((c_3.1.id, c_3.2))
def chargenetref16_candidate_p4 (a0_p : SProfile) (a2_txn : ByteArray) : Option Bool :=
  bif sEq a2_txn ByteArray.empty then (bif (!decide (a0_p.Purpose = 3)) then (some ((!decide (a0_p.Kind = 4)))) else (some false)) else (bif (!decide (a0_p.Purpose = 3)) then (some true) else (some (sEq a0_p.Txn a2_txn)))
def chargenetref16_candidate (F : Nat) (a0_p : SProfile) (a1_conn : Int) (a2_txn : ByteArray) : Option Bool :=
  bif (!decide (a0_p.Conn = 0)) then (bif (!decide (a0_p.Conn = a1_conn)) then (some false) else (chargenetref16_candidate_p4 a0_p a2_txn)) else (chargenetref16_candidate_p4 a0_p a2_txn)
def chargenetref16_leading_p14 (limit_1 : Int) (found_2 : Bool) (b1_3 : Int) (b1_4 : Int) (b1_5 : Int) (b1_6 : Int) (b1_7 : Int) (b1_8 : ByteArray) (b1_9 : Int) (b1_10 : Int) (b1_11 : Int) (b1_12 : Int) (b1_13 : List SPeriod) : Option (SProfile × Int × Bool) :=
  some ((SProfile.mk b1_3 b1_4 b1_5 b1_6 b1_7 b1_8 b1_9 b1_10 b1_11 b1_12 b1_13, limit_1, found_2))
def chargenetref16_leading_p94 (t24_40 : Int) (kl_n_79 : Int → Bool → Int → Int → Int → Int → Int → Int → ByteArray → Int → Int → Int → Int → (List SPeriod) → Option (SProfile × Int × Bool)) (limit_81 : Int) (found_82 : Bool) (b1_83 : Int) (b1_84 : Int) (b1_85 : Int) (b1_86 : Int) (b1_87 : Int) (b1_88 : ByteArray) (b1_89 : Int) (b1_90 : Int) (b1_91 : Int) (b1_92 : Int) (b1_93 : List SPeriod) : Option (SProfile × Int × Bool) :=
  kl_n_79 limit_81 found_82 (IntKind.wrap .i64 (t24_40 + 1)) b1_83 b1_84 b1_85 b1_86 b1_87 b1_88 b1_89 b1_90 b1_91 b1_92 b1_93
def chargenetref16_leading_b79 (F : Nat) (a0_l : List SProfile) (a1_purpose : Int) (a2_conn : Int) (a3_txn : ByteArray) (a4_start : Int) (a5_t : Int) (kl_n_79 : Int → Bool → Int → Int → Int → Int → Int → Int → ByteArray → Int → Int → Int → Int → (List SPeriod) → Option (SProfile × Int × Bool)) (limit_38 : Int) (found_39 : Bool) (t24_40 : Int) (b1_41 : Int) (b1_42 : Int) (b1_43 : Int) (b1_44 : Int) (b1_45 : Int) (b1_46 : ByteArray) (b1_47 : Int) (b1_48 : Int) (b1_49 : Int) (b1_50 : Int) (b1_51 : List SPeriod) : Option (SProfile × Int × Bool) :=
  bif decide (t24_40 < ((a0_l).length : Int)) then (guard ((0 : Int) ≤ t24_40 ∧ t24_40 < ((a0_l).length : Int)) (bif (!decide ((a0_l.getD t24_40.toNat dSProfile).Purpose = a1_purpose)) then (chargenetref16_leading_p94 t24_40 kl_n_79 limit_38 found_39 b1_41 b1_42 b1_43 b1_44 b1_45 b1_46 b1_47 b1_48 b1_49 b1_50 b1_51) else ((chargenetref16_candidate F (a0_l.getD t24_40.toNat dSProfile) a2_conn a3_txn).bind fun c_97 => bif (!c_97) then (chargenetref16_leading_p94 t24_40 kl_n_79 limit_38 found_39 b1_41 b1_42 b1_43 b1_44 b1_45 b1_46 b1_47 b1_48 b1_49 b1_50 b1_51) else ((chargenetref15_Limit F (a0_l.getD t24_40.toNat dSProfile) a4_start a5_t).bind fun c_100 => bif (!c_100.2) then (chargenetref16_leading_p94 t24_40 kl_n_79 limit_38 found_39 b1_41 b1_42 b1_43 b1_44 b1_45 b1_46 b1_47 b1_48 b1_49 b1_50 b1_51) else (bif (!found_39) then (chargenetref16_leading_p94 t24_40 kl_n_79 c_100.1 true ((a0_l.getD t24_40.toNat dSProfile).ID) ((a0_l.getD t24_40.toNat dSProfile).Level) ((a0_l.getD t24_40.toNat dSProfile).Purpose) ((a0_l.getD t24_40.toNat dSProfile).Kind) ((a0_l.getD t24_40.toNat dSProfile).Conn) ((a0_l.getD t24_40.toNat dSProfile).Txn) ((a0_l.getD t24_40.toNat dSProfile).Span_From) ((a0_l.getD t24_40.toNat dSProfile).Span_To) ((a0_l.getD t24_40.toNat dSProfile).Start) ((a0_l.getD t24_40.toNat dSProfile).Duration) ((a0_l.getD t24_40.toNat dSProfile).Periods)) else (bif decide (b1_42 < (a0_l.getD t24_40.toNat dSProfile).Level) then (chargenetref16_leading_p94 t24_40 kl_n_79 c_100.1 true ((a0_l.getD t24_40.toNat dSProfile).ID) ((a0_l.getD t24_40.toNat dSProfile).Level) ((a0_l.getD t24_40.toNat dSProfile).Purpose) ((a0_l.getD t24_40.toNat dSProfile).Kind) ((a0_l.getD t24_40.toNat dSProfile).Conn) ((a0_l.getD t24_40.toNat dSProfile).Txn) ((a0_l.getD t24_40.toNat dSProfile).Span_From) ((a0_l.getD t24_40.toNat dSProfile).Span_To) ((a0_l.getD t24_40.toNat dSProfile).Start) ((a0_l.getD t24_40.toNat dSProfile).Duration) ((a0_l.getD t24_40.toNat dSProfile).Periods)) else (bif decide ((a0_l.getD t24_40.toNat dSProfile).Level = b1_42) then (bif decide (b1_41 < (a0_l.getD t24_40.toNat dSProfile).ID) then (chargenetref16_leading_p94 t24_40 kl_n_79 c_100.1 true ((a0_l.getD t24_40.toNat dSProfile).ID) ((a0_l.getD t24_40.toNat dSProfile).Level) ((a0_l.getD t24_40.toNat dSProfile).Purpose) ((a0_l.getD t24_40.toNat dSProfile).Kind) ((a0_l.getD t24_40.toNat dSProfile).Conn) ((a0_l.getD t24_40.toNat dSProfile).Txn) ((a0_l.getD t24_40.toNat dSProfile).Span_From) ((a0_l.getD t24_40.toNat dSProfile).Span_To) ((a0_l.getD t24_40.toNat dSProfile).Start) ((a0_l.getD t24_40.toNat dSProfile).Duration) ((a0_l.getD t24_40.toNat dSProfile).Periods)) else (chargenetref16_leading_p94 t24_40 kl_n_79 limit_38 found_39 b1_41 b1_42 b1_43 b1_44 b1_45 b1_46 b1_47 b1_48 b1_49 b1_50 b1_51)) else (chargenetref16_leading_p94 t24_40 kl_n_79 limit_38 found_39 b1_41 b1_42 b1_43 b1_44 b1_45 b1_46 b1_47 b1_48 b1_49 b1_50 b1_51)))))))) else (chargenetref16_leading_p14 limit_38 found_39 b1_41 b1_42 b1_43 b1_44 b1_45 b1_46 b1_47 b1_48 b1_49 b1_50 b1_51)
def chargenetref16_leading_l79 (F : Nat) (a0_l : List SProfile) (a1_purpose : Int) (a2_conn : Int) (a3_txn : ByteArray) (a4_start : Int) (a5_t : Int) : Nat → Int → Bool → Int → Int → Int → Int → Int → Int → ByteArray → Int → Int → Int → Int → (List SPeriod) → Option (SProfile × Int × Bool)
  | 0, _, _, _, _, _, _, _, _, _, _, _, _, _, _ => none
  | n + 1, limit_38, found_39, t24_40, b1_41, b1_42, b1_43, b1_44, b1_45, b1_46, b1_47, b1_48, b1_49, b1_50, b1_51 => chargenetref16_leading_b79 F a0_l a1_purpose a2_conn a3_txn a4_start a5_t (fun limit_38 found_39 t24_40 b1_41 b1_42 b1_43 b1_44 b1_45 b1_46 b1_47 b1_48 b1_49 b1_50 b1_51 => chargenetref16_leading_l79 F a0_l a1_purpose a2_conn a3_txn a4_start a5_t n limit_38 found_39 t24_40 b1_41 b1_42 b1_43 b1_44 b1_45 b1_46 b1_47 b1_48 b1_49 b1_50 b1_51) limit_38 found_39 t24_40 b1_41 b1_42 b1_43 b1_44 b1_45 b1_46 b1_47 b1_48 b1_49 b1_50 b1_51
def chargenetref16_leading (F : Nat) (a0_l : List SProfile) (a1_purpose : Int) (a2_conn : Int) (a3_txn : ByteArray) (a4_start : Int) (a5_t : Int) : Option (SProfile × Int × Bool) :=
  chargenetref16_leading_l79 F a0_l a1_purpose a2_conn a3_txn a4_start a5_t F 0 false 0 0 0 0 0 0 ByteArray.empty 0 0 0 0 ([])
def chargenetref16_decide_p21 (sl_3 : Int) (sok_4 : Bool) (b0_5 : Int) (c_16 : SProfile × Int × Bool) (t51_18 : Bool) : Option (Int × Int × Bool) :=
  bif t51_18 then (some ((c_16.2.1, c_16.1.ID, true))) else (bif sok_4 then (some ((sl_3, b0_5, true))) else (some ((1073741824, 0, false))))
def chargenetref16_decide_p24 (F : Nat) (a0_l : List SProfile) (a1_conn : Int) (a2_txn : ByteArray) (a3_start : Int) (a4_t : Int) (sl_3 : Int) (sok_4 : Bool) (b0_5 : Int) (b0_6 : Int) (b0_7 : Int) (b0_8 : Int) (b0_9 : Int) (b0_10 : ByteArray) (b0_11 : Int) (b0_12 : Int) (b0_13 : Int) (b0_14 : Int) (b0_15 : List SPeriod) : Option (Int × Int × Bool) :=
  (chargenetref16_leading F a0_l 1 a1_conn a2_txn a3_start a4_t).bind fun c_16 => bif c_16.2.2 then (bif (!sok_4) then (chargenetref16_decide_p21 sl_3 sok_4 b0_5 c_16 true) else (chargenetref16_decide_p21 sl_3 sok_4 b0_5 c_16 (decide (c_16.2.1 ≤ sl_3)))) else (chargenetref16_decide_p21 sl_3 sok_4 b0_5 c_16 false)
def chargenetref16_decide (F : Nat) (a0_l : List SProfile) (a1_conn : Int) (a2_txn : ByteArray) (a3_start : Int) (a4_t : Int) : Option (Int × Int × Bool) :=
  (chargenetref16_leading F a0_l 3 a1_conn a2_txn a3_start a4_t).bind fun c_1 => bif (!c_1.2.2) then ((chargenetref16_leading F a0_l 2 a1_conn a2_txn a3_start a4_t).bind fun c_26 => chargenetref16_decide_p24 F a0_l a1_conn a2_txn a3_start a4_t c_26.2.1 c_26.2.2 c_26.1.ID c_26.1.Level c_26.1.Purpose c_26.1.Kind c_26.1.Conn c_26.1.Txn c_26.1.Span_From c_26.1.Span_To c_26.1.Start c_26.1.Duration c_26.1.Periods) else (chargenetref16_decide_p24 F a0_l a1_conn a2_txn a3_start a4_t c_1.2.1 c_1.2.2 c_1.1.ID c_1.1.Level c_1.1.Purpose c_1.1.Kind c_1.1.Conn c_1.1.Txn c_1.1.Span_From c_1.1.Span_To c_1.1.Start c_1.1.Duration c_1.1.Periods)
def chargenetref16_Why (F : Nat) (a0_l : List SProfile) (a1_conn : Int) (a2_txn : ByteArray) (a3_start : Int) (a4_t : Int) : Option (Int × Bool) :=
  (chargenetref16_decide F a0_l a1_conn a2_txn a3_start a4_t).bind fun c_1 => some ((c_1.2.1, c_1.2.2))
def chargenetref16_At (F : Nat) (a0_l : List SProfile) (a1_conn : Int) (a2_txn : ByteArray) (a3_start : Int) (a4_t : Int) : Option Int :=
  (chargenetref16_decide F a0_l a1_conn a2_txn a3_start a4_t).bind fun c_1 => some c_1.1
def chargenetlaw16_ComposeAts (F : Nat) (a0_q : SQuery) : Option Bool :=
  (chargenetlaw16_Good F a0_q).bind fun c_1 => bif (!c_1) then ((chargenetlaw16_exampleHolds F).bind fun c_4 => some c_4) else ((compose_Why F a0_q.L a0_q.Conn a0_q.Txn a0_q.Start a0_q.T).bind fun c_6 => (chargenetref16_Why F a0_q.L a0_q.Conn a0_q.Txn a0_q.Start a0_q.T).bind fun c_8 => bif decide (c_6.1 = c_8.1) then (bif (c_6.2 == c_8.2) then ((compose_At F a0_q.L a0_q.Conn a0_q.Txn a0_q.Start a0_q.T).bind fun c_12 => (chargenetref16_At F a0_q.L a0_q.Conn a0_q.Txn a0_q.Start a0_q.T).bind fun c_14 => some (decide (c_12 = c_14))) else (some false)) else (some false))
def compose_Series_p8 (o0_7 : List SStep) : Option ((List SStep) × Int) :=
  some ((o0_7, 0))
def compose_Series_b27 (F : Nat) (a3_start : Int) (a4_s : SSpan) (c_5 : List SProfile) (kl_n_27 : Int → (List SStep) → Option ((List SStep) × Int)) (t_17 : Int) (o1_18 : List SStep) : Option ((List SStep) × Int) :=
  bif decide (0 ≤ t_17) then (bif decide (t_17 < a4_s.To) then (bif decide (((o1_18).length : Int) = 512) then (some (([], 3))) else ((compose_limit F c_5 a3_start t_17).bind fun c_31 => guard (((o1_18).length + ([SStep.mk t_17 c_31]).length) * 16 ≤ 140737488355328 ∧ (o1_18).length + ([SStep.mk t_17 c_31]).length ≤ 140737488355328) ((compose_next F c_5 a3_start t_17 (IntKind.wrap .i64 (a4_s.To - 1))).bind fun c_34 => kl_n_27 c_34 (o1_18 ++ ([SStep.mk t_17 c_31]))))) else (compose_Series_p8 o1_18)) else (compose_Series_p8 o1_18)
def compose_Series_l27 (F : Nat) (a3_start : Int) (a4_s : SSpan) (c_5 : List SProfile) : Nat → Int → (List SStep) → Option ((List SStep) × Int)
  | 0, _, _ => none
  | n + 1, t_17, o1_18 => compose_Series_b27 F a3_start a4_s c_5 (fun t_17 o1_18 => compose_Series_l27 F a3_start a4_s c_5 n t_17 o1_18) t_17 o1_18
def compose_Series (F : Nat) (a0_l : List SProfile) (a1_conn : Int) (a2_txn : ByteArray) (a3_start : Int) (a4_s : SSpan) : Option ((List SStep) × Int) :=
  bif decide (a4_s.From < 0) then (some (([], 2))) else (bif decide (a4_s.To < a4_s.From) then (some (([], 2))) else (bif decide (268435456 < a4_s.To) then (some (([], 2))) else (bif decide (20160 < IntKind.wrap .i64 (a4_s.To - a4_s.From)) then (some (([], 2))) else ((compose_candidates F a0_l a1_conn a2_txn).bind fun c_5 => compose_Series_l27 F a3_start a4_s c_5 F a4_s.From (([] : List SStep))))))
def chargenetlaw16_ComposeRanges (F : Nat) (a0_from : Int) (a1_to : Int) : Option Bool :=
  (compose_Series F (([] : List SProfile)) 1 ByteArray.empty 0 (SSpan.mk a0_from a1_to)).bind fun c_1 => bif decide (a0_from < 0) then (bif decide (c_1.2 = 2) then (some (decide (((c_1.1).length : Int) = 0))) else (some false)) else (bif decide (a1_to < a0_from) then (bif decide (c_1.2 = 2) then (some (decide (((c_1.1).length : Int) = 0))) else (some false)) else (bif decide (268435456 < a1_to) then (bif decide (c_1.2 = 2) then (some (decide (((c_1.1).length : Int) = 0))) else (some false)) else (bif decide (20160 < IntKind.wrap .i64 (a1_to - a0_from)) then (bif decide (c_1.2 = 2) then (some (decide (((c_1.1).length : Int) = 0))) else (some false)) else (bif decide (a0_from = a1_to) then (bif decide (c_1.2 = 0) then (some (decide (((c_1.1).length : Int) = 0))) else (some false)) else (bif decide (c_1.2 = 0) then (bif decide (((c_1.1).length : Int) = 1) then (guard ((0 : Int) ≤ 0 ∧ 0 < ((c_1.1).length : Int)) (some ((xor false (decide ((c_1.1.getD (0 : Int).toNat dSStep).At = a0_from) && (decide ((c_1.1.getD (0 : Int).toNat dSStep).Value = 1073741824) && true)))))) else (some false)) else (some false))))))
def chargenetref16_Series_p7 (o0_5 : List SStep) : Option ((List SStep) × Int) :=
  bif decide (512 < ((o0_5).length : Int)) then (some (([], 3))) else (some ((o0_5, 0)))
def chargenetref16_Series_p33 (t_18 : Int) (kl_n_30 : Int → (List SStep) → Option ((List SStep) × Int)) (o1_32 : List SStep) : Option ((List SStep) × Int) :=
  kl_n_30 (IntKind.wrap .i64 (t_18 + 1)) o1_32
def chargenetref16_Series_b30 (F : Nat) (a0_l : List SProfile) (a1_conn : Int) (a2_txn : ByteArray) (a3_start : Int) (a4_s : SSpan) (kl_n_30 : Int → (List SStep) → Option ((List SStep) × Int)) (t_18 : Int) (o1_19 : List SStep) : Option ((List SStep) × Int) :=
  bif decide (t_18 < a4_s.To) then ((chargenetref16_At F a0_l a1_conn a2_txn a3_start t_18).bind fun c_34 => bif decide (((o1_19).length : Int) = 0) then (guard (((o1_19).length + ([SStep.mk t_18 c_34]).length) * 16 ≤ 140737488355328 ∧ (o1_19).length + ([SStep.mk t_18 c_34]).length ≤ 140737488355328) (chargenetref16_Series_p33 t_18 kl_n_30 (o1_19 ++ ([SStep.mk t_18 c_34])))) else (guard ((0 : Int) ≤ IntKind.wrap .i64 (((o1_19).length : Int) - 1) ∧ IntKind.wrap .i64 (((o1_19).length : Int) - 1) < ((o1_19).length : Int)) (bif (!decide ((o1_19.getD ((IntKind.wrap .i64 (((o1_19).length : Int) - 1)).toNat) dSStep).Value = c_34)) then (guard (((o1_19).length + ([SStep.mk t_18 c_34]).length) * 16 ≤ 140737488355328 ∧ (o1_19).length + ([SStep.mk t_18 c_34]).length ≤ 140737488355328) (chargenetref16_Series_p33 t_18 kl_n_30 (o1_19 ++ ([SStep.mk t_18 c_34])))) else (chargenetref16_Series_p33 t_18 kl_n_30 o1_19)))) else (chargenetref16_Series_p7 o1_19)
def chargenetref16_Series_l30 (F : Nat) (a0_l : List SProfile) (a1_conn : Int) (a2_txn : ByteArray) (a3_start : Int) (a4_s : SSpan) : Nat → Int → (List SStep) → Option ((List SStep) × Int)
  | 0, _, _ => none
  | n + 1, t_18, o1_19 => chargenetref16_Series_b30 F a0_l a1_conn a2_txn a3_start a4_s (fun t_18 o1_19 => chargenetref16_Series_l30 F a0_l a1_conn a2_txn a3_start a4_s n t_18 o1_19) t_18 o1_19
def chargenetref16_Series (F : Nat) (a0_l : List SProfile) (a1_conn : Int) (a2_txn : ByteArray) (a3_start : Int) (a4_s : SSpan) : Option ((List SStep) × Int) :=
  bif decide (a4_s.From < 0) then (some (([], 2))) else (bif decide (a4_s.To < a4_s.From) then (some (([], 2))) else (bif decide (268435456 < a4_s.To) then (some (([], 2))) else (bif decide (20160 < IntKind.wrap .i64 (a4_s.To - a4_s.From)) then (some (([], 2))) else (chargenetref16_Series_l30 F a0_l a1_conn a2_txn a3_start a4_s F a4_s.From (([] : List SStep))))))
def chargenetlaw16_same_p2  : Option Bool :=
  some true
def chargenetlaw16_same_b12 (a0_a : List SStep) (a1_b : List SStep) (kl_n_12 : Int → Option Bool) (t13_7 : Int) : Option Bool :=
  bif decide (t13_7 < ((a0_a).length : Int)) then (guard ((0 : Int) ≤ t13_7 ∧ t13_7 < ((a0_a).length : Int)) (guard ((0 : Int) ≤ t13_7 ∧ t13_7 < ((a1_b).length : Int)) (bif (xor true (decide ((a0_a.getD t13_7.toNat dSStep).At = (a1_b.getD t13_7.toNat dSStep).At) && (decide ((a0_a.getD t13_7.toNat dSStep).Value = (a1_b.getD t13_7.toNat dSStep).Value) && true))) then (some false) else (kl_n_12 (IntKind.wrap .i64 (t13_7 + 1)))))) else (chargenetlaw16_same_p2)
def chargenetlaw16_same_l12 (a0_a : List SStep) (a1_b : List SStep) : Nat → Int → Option Bool
  | 0, _ => none
  | n + 1, t13_7 => chargenetlaw16_same_b12 a0_a a1_b (fun t13_7 => chargenetlaw16_same_l12 a0_a a1_b n t13_7) t13_7
def chargenetlaw16_same (F : Nat) (a0_a : List SStep) (a1_b : List SStep) : Option Bool :=
  bif (!decide (((a0_a).length : Int) = ((a1_b).length : Int))) then (some false) else (chargenetlaw16_same_l12 a0_a a1_b F 0)
def chargenetlaw16_ComposeSeries (F : Nat) (a0_q : SQuery) : Option Bool :=
  (chargenetlaw16_Good F a0_q).bind fun c_1 => bif (!c_1) then ((chargenetlaw16_exampleHolds F).bind fun c_4 => some c_4) else ((compose_Series F a0_q.L a0_q.Conn a0_q.Txn a0_q.Start (SSpan.mk a0_q.T (IntKind.wrap .i64 (a0_q.T + a0_q.Length)))).bind fun c_6 => (chargenetref16_Series F a0_q.L a0_q.Conn a0_q.Txn a0_q.Start (SSpan.mk a0_q.T (IntKind.wrap .i64 (a0_q.T + a0_q.Length)))).bind fun c_8 => bif decide (c_6.2 = c_8.2) then ((chargenetlaw16_same F c_6.1 c_8.1).bind fun c_11 => some c_11) else (some false))
end Go.Proofs.Ytjpooimkhkhgkaa.M
